/- RdFile + TopSingle + TopAlive -/
import Derived.Test.YthgkedoildcbcaaGreatDoorZg42
import Derived.Deep.CutRange
import Derived.Test.YthgkedoildcbcaaGreatDoorZg25
import Derived.Test.YthgkedoildcbcaaGreatDoorZg35
import Derived.Test.YthgkedoildcbcaaGreatDoorZg1
import Derived.Test.YthgkedoildcbcaaGreatDoorZg41
import Derived.Test.YthgkedoildcbcaaGreatDoorZg33
import Derived.Test.YthgkedoildcbcaaGreatDoorZg6
import Derived.Test.YthgkedoildcbcaaGreatDoorZg11
import Derived.Deep.DeepCutAuto
import Derived.Deep.CutBlock
set_option maxHeartbeats 12800000
set_option maxRecDepth 100000
namespace Go.Proofs.YthgkedoildcbcaaGreatDoor
open Go.RowKit
theorem GI {L:List Int} {f i:Nat} {l:List aH} (h:pk L (ay L i)<0):fS L (f+1) i l=.ok l:=by rw [fS,if_pos h]
theorem EG {L:List Int} {f i:Nat} {l:List aH} (h:¬ pk L (ay L i)<0) (h2:l.length=200):fS L (f+1) i l=.error (5,ay L i):=by rw [fS,if_neg h,if_pos h2]
theorem ET {L:List Int} {f i:Nat} {l:List aH} {e:Int × Nat} (h:¬ pk L (ay L i)<0) (h2:¬ l.length=200) (h3:iQ L (ay L i)=.error e):fS L (f+1) i l=.error e:=by rw [fS,if_neg h,if_neg h2,h3]
theorem DT {L:List Int} {f i j:Nat} {l:List aH} {p:aH} {e:Int × Nat} (h:¬ pk L (ay L i)<0) (h2:¬ l.length=200) (h3:iQ L (ay L i)=.ok (p,j)) (h4:aQ L (ay L j) 59=.error e):fS L (f+1) i l=.error e:=by rw [fS,if_neg h,if_neg h2,h3];simp only;rw [h4]
theorem E1 {L:List Int} {f i j k:Nat} {l:List aH} {p:aH} (h:¬ pk L (ay L i)<0) (h2:¬ l.length=200) (h3:iQ L (ay L i)=.ok (p,j)) (h4:aQ L (ay L j) 59=.ok k):fS L (f+1) i l=fS L f k (l++[p]):=by rw [fS,if_neg h,if_neg h2,h3];simp only;rw [h4]
theorem nu {w:World} {X:Nat→Prop} {p:aH} {cs:List Value} (h:ej w X p cs):∃ v0 v1 v2 v3 v4 v5 v6 v7 v8 v9 v10 v11 v12 tX uh uo,cs = [v0,v1,v2,v3,v4,v5,v6,v7,v8,v9,v10,v11,v12,tX,uh,uo]:=by
 obtain⟨A',n',c',L1,a1,x1,L2,a2,x2,L3,a3,x3,R1,b1,y1,R2,b2,y2,R3,b3,y3,rfl⟩:=h.form;exact⟨_,_,_,_,_,_,_,_,_,_,_,_,_,_,_,_,rfl⟩
theorem wN (s:ByteArray) (w:World) (hs:s.size≤1099511627776) :
    Calls Tryz.prog 13 #[.string s] w (rW w (gU (dz s 0))):=by
  obtain⟨i0,Jf,u0,z1,z2⟩:=info_parts Iu
  have hmf:∀ (fn:Fn) (first cap:Array Value) (w:World),(Instr.makeFunc fn first cap).run Tryz.prog w=.ok (.func fn first cap) w:=fun _ _ _ _=>rfl
  have HD:=qqh (fun(W:World)=>show Calls Tryz.prog 7 #[.string s] W fun e w'=>∃ v,e=.returned v∧pE w' W.heap.size v (dz s 0)∧Below W.heap.size W w' from oW s W hs)
  have HV:=qqh (show fP (dz s 0) from kY s)
  have hLs:(dz s 0).length≤s.size:=by
    unfold dz
    rw [List.length_map]
    have:=zE s s.size 0 (by omega)
    omega
  generalize dz s 0=L at *
  have dF:=qqh (show Below w.heap.size w ((w.alloc (.cells #[.slice none 0 0] 48)).alloc (.cells #[.int .i64 0,.int .i64 0] 32)) from((Below.refl _ _).alloc (Nat.le_refl _) _).alloc (by simp) _)
  have fB:=qqh (show ai ((w.alloc (.cells #[.slice none 0 0] 48)).alloc (.cells #[.int .i64 0,.int .i64 0] 32)) w.heap.size 48 #[.slice none 0 0] from(ai.new w _ _).alloc _)
  have q7:=qqh (show ai ((w.alloc (.cells #[.slice none 0 0] 48)).alloc (.cells #[.int .i64 0,.int .i64 0] 32)) (w.heap.size+1) 32 #[.int .i64 0,.int .i64 0] from by
    have:=ai.new (w.alloc (.cells #[.slice none 0 0] 48)) 32 #[.int .i64 0,.int .i64 0]
    simpa using this)
  have SZ:=qqh (show w.heap.size+2≤((w.alloc (.cells #[.slice none 0 0] 48)).alloc (.cells #[.int .i64 0,.int .i64 0] 32)).heap.size by simp)
  go_enter_defers Tryz.func13,Tryz.ntmps13
  go_wp2_with fail
  refine(HD.out _).mono ?_
  rintro e w1 ⟨v,rfl,ho,hb⟩
  have bI:=qqh (dF.out.trans (hb.mono dF.out.size))
  have iR:=qqh (fB.out.below hb fB.out.lt)
  have fU:=qqh (q7.out.below hb q7.out.lt)
  have pY:w.heap.size+2≤w1.heap.size:=Nat.le_trans SZ.out hb.size
  obtain⟨n,hn⟩:∃ n,L.length=n:=⟨_,rfl⟩
  unfold pE at ho
  rw [hn]at ho
  have XS:n≤4611686018427387904:=by omega
  obtain⟨A,c,rfl,hnc⟩:=aI ho
  have hrow:cE (w1.alloc (.cells #[.slice A n c,.int .i64 0] 90)) (fun b=>w.heap.size+2≤b∧b<w1.heap.size) 1 A n (runeCells L) :=
    (cE.ck (X:=fun b=>w.heap.size+2≤b∧b<w1.heap.size) ho (fun b hb=>⟨Nat.le_trans SZ.out (aU ho hb).1,(aU ho hb).2⟩)).keep (aa.alloc _ (fun b hb _=>hb))
  have mM:=qqh (show tK w w1.heap.size A n c L (w1.alloc (.cells #[.slice A n c,.int .i64 0] 90)) 0 (.slice none 0 0) [] from
    ⟨⟨⟨_,ai.new _ _ _⟩,hrow.lift (fun b h=>by have:=h.2;omega),XS,Nat.zero_le _,hnc⟩,hrow,iR.out.alloc _,fU.out.alloc _,gj.nil _ _ _,bI.out.alloc bI.out.size _,pY⟩)
  have hC:w1.heap.size+1≤(w1.alloc (.cells #[.slice A n c,.int .i64 0] 90)).heap.size:=by simp
  have NU:=qqh hn
  clear ho hb HD fB q7 dF SZ hrow bI iR fU
  go_upto_region 4 with fail
  generalize w1.alloc (.cells #[.slice A n c,.int .i64 0] 90)=w2 at *
  generalize w1.heap.size=C at *
  have c0:=mM.out.cur.blk.cell 0
  by_cases uz:16000<n
  · have lI:=qqh (sD (L:=L) (by rw [hn];exact uz))
    have Dj:=qqh (fun(W:World)=>bV 4 0 W)
    clear hn
    go_wp2_with fail
    refine(Dj.out _).mono ?_
    rintro e w3 ⟨rfl,rfl⟩
    go_wp2_with fail
    refine gE _ (w.heap.size+1) w.heap.size w.heap.size 4 0 0 0 _ _ _ _ _ rfl rfl mM.out.flt mM.out.res (by omega) (by omega) (Nat.le_refl _) mM.out.below.size (by decide) (fun W2 aR=>?_)
    rw [lI.out]
    exact⟨⟨none,0,0,rfl,gF.nil _ _,Nat.le_refl _⟩,mM.out.below.trans aR⟩
  · have HMU:=qqh (show ¬ 16000<L.length from fun h=>uz (by rw [← hn];exact h))
    have hn5:n≤16000:=by omega
    have gP:=qqh (fun(W:World) (m:Nat) (h:av W C A n c L m)=>cK W C A n c L m h)
    have pW:=qqh (fun(W:World) (m:Nat) (h:av W C A n c L m)=>i5 W C A n c L m h)
    have I8:=qqh (fun(W:World) (m:Nat) (r:Int) (h:av W C A n c L m) (hr:r ≠ -1)=>eS W C A n c L m r h hr)
    have pX:=qqh (fun(W:World) (m:Nat) (h:av W C A n c L m)=>N7 W C A n c L m h HV.out (by omega))
    obtain⟨R0,UA⟩:∃ R0,fS L (L.length+1) 0 [] = R0:=⟨_,rfl⟩
    have kg:=qqh (fun(x:Int) (p:Nat) (h:R0=.error (x,p))=>show gU L=([],(x,(p:Int))) from wD HMU.out (UA.trans h))
    have HXN:=qqh (fun(x:Int) (p:Nat) (h:R0=.error (x,p))=>show x≠0 from Gw L _ _ _ _ _ (UA.trans h))
    have Dq:=qqh (fun(l:List aH) (h:R0=.ok l)=>show gU L=(l,(0,0)) from yO HMU.out (UA.trans h))
    have fB:=qqh UA
    generalize gU L=RP at *
    have aaw:decide ((16000:Int)<(n:Int))=false:=decide_eq_false (by omega)
    clear hn UA uz
    go_wp2_with fail
    refine(pW.out _ 0 mM.out.cur).mono ?_
    rintro e w3 ⟨rfl,kN,bL⟩
    have eo:=qqh (mM.out.step kN bL)
    have hC3:C+1≤w3.heap.size:=Nat.le_trans hC bL.1
    clear kN bL c0 aaw hC
    go_wp2_with fail
    go_loopw [25] (fun _ wr=>∃ (f j:Nat) (acc:List aH) (v:Value),j≤n∧n+1≤f+j∧R0=fS L f j acc∧acc.length≤200∧tK w C A n c L wr (ay L j) v acc∧C+1≤wr.heap.size) (fun _ wr=>n - (match wr.cell? ⟨C,1,none⟩with | some (.int _ j)=>j.toNat | _=>0))
    case atStart=>exact⟨L.length+1,0,[],_,Nat.zero_le _,by have:=NU.out;omega,fB.out.symm,Nat.zero_le _,eo.out,hC3⟩
    case round=>
      obtain⟨f0,j,acc,v,hj,hf,aV,Fb,hfl,hCr⟩:=hrel
      obtain⟨f,rfl⟩:∃ f,f0=f+1:=⟨f0 - 1,by omega⟩
      obtain⟨a,ha⟩:∃ a,ay L j=a:=⟨_,rfl⟩
      have M1:j≤a:=by rw [← ha];exact de L j
      have dQ:=qqh aV
      have HA:=qqh ha
      rw [ha]at hfl
      have mM:=qqh hfl
      have nT:=qqh (hfl.cur.blk.cell 1)
      have han:=hfl.cur.le
      obtain⟨Av,cv,rfl,q6⟩:=hfl.own.form
      clear aV ha hfl
      go_wp2_with fail
      refine(gP.out _ a mM.out.cur).mono ?_
      rintro e w4 ⟨rfl,lF,hb4⟩
      have gx:=qqh (mM.out.step lF hb4)
      have YU:C+1≤w4.heap.size:=Nat.le_trans hCr hb4.1
      clear lF hb4
      have r4:=gx.out.res.cell 0
      by_cases hneg:pk L a<0
      · have hg:decide ((0:Int)≤pk L a)=false:=decide_eq_false (by omega)
        have lI:=qqh (Dq.out acc (dQ.out.trans (GI (by rw [HA.out];exact hneg))))
        clear hneg
        go_wp2_with fail
        have r5:=gx.out.res.frozen 0
        have s4:=gx.out.flt.cell 0
        have s5:=gx.out.flt.cell 1
        have s6:=gx.out.flt.frozen 0
        have s7:=gx.out.flt.frozen 1
        go_region
        obtain⟨h9R,h9F,h9B⟩:=zi (m:=1) gx.out.res gx.out.flt (show w.heap.size≠w.heap.size+1 by omega)
        obtain⟨h9b,h9k⟩:=h9B w.heap.size (Nat.le_refl _) (by omega) gx.out.below.size
        have hW:(((w4.setCell { block:=w.heap.size,off:=0 } (Value.slice Av acc.length cv)).setCell { block:=w.heap.size+1,off:=0 } (Value.int IntKind.i64 0)).setCell { block:=w.heap.size+1,off:=1 } (Value.int IntKind.i64 0)).drew=(((w4.drewN 1).setCell { block:=w.heap.size,off:=0 } (Value.slice Av acc.length cv)).setCell { block:=w.heap.size+1,off:=0 } (Value.int IntKind.i64 0)).setCell { block:=w.heap.size+1,off:=1 } (Value.int IntKind.i64 0):=rfl
        rw [hW]
        have hCC:=gx.out.hC
        have jd:=qqh h9R
        have Vl:=qqh h9F
        have Mp:=qqh (gx.out.below.trans h9b)
        have hpx:=gx.out.own.done
        have HKK:=qqh (show aa w4 (fun b=>C+1≤b) _ (fun b=>w.heap.size≤b) from fun b hb hl=>let ⟨e,_,h2⟩:=h9k b ⟨by omega,by omega⟩ hl;⟨e,by omega,h2⟩)
        have xm:=qqh (hpx.keep HKK.out)
        clear h9R h9F h9B h9b h9k r4 r5 s4 s5 s6 s7 HKK hpx hW
        generalize (((w4.drewN 1).setCell { block:=w.heap.size,off:=0 } (Value.slice Av acc.length cv)).setCell { block:=w.heap.size+1,off:=0 } (Value.int IntKind.i64 0)).setCell { block:=w.heap.size+1,off:=1 } (Value.int IntKind.i64 0)=w9 at *
        go_wp2_with fail
        refine xo _ (w.heap.size+1) w.heap.size 0 (.slice Av acc.length cv) _ _ w9 _ rfl rfl Vl.out jd.out ?_
        rw [lI.out]
        exact⟨⟨Av,_,cv,rfl,xm.out,q6⟩,Mp.out⟩
      · have hg:decide ((0:Int)≤pk L a)=true:=decide_eq_true (by omega)
        have HNG:=qqh hneg
        by_cases hm:acc.length=200
        · have HE:=qqh (dQ.out.trans (EG (by rw [HA.out];exact hneg) hm))
          have uY:=qqh (show R0=.error (5,a) by rw [HE.out,HA.out])
          have lI:=qqh (kg.out 5 a uY.out)
          have y4:=gx.out.cur.blk.cell 1
          rw [hm]at r4
          clear hneg
          go_wp2_with fail
          refine(bV 5 a _).mono ?_
          rintro e w5 ⟨rfl,rfl⟩
          go_wp2_with fail
          refine gE _ (w.heap.size+1) w.heap.size w.heap.size 5 a 0 0 _ _ _ _ _ rfl rfl gx.out.flt gx.out.res (by omega) (by omega) (Nat.le_refl _) gx.out.below.size (by decide) (fun W2 aR=>?_)
          rw [lI.out]
          exact⟨⟨none,0,0,rfl,gF.nil _ _,Nat.le_refl _⟩,gx.out.below.trans aR⟩
        · have hm2:¬(acc.length:Int)=200:=by omega
          have qm:((acc.length:Int) == 200)=false:=by rw [beq_eq_false_iff_ne];exact hm2
          have HM:=qqh hm
          clear hm hm2
          generalize rj:acc.length=al at *
          cases hp:iQ L a with
          | error e0=>
            obtain⟨x,p⟩:=e0
            have HE:=qqh (dQ.out.trans (ET (by rw [HA.out];exact hneg) (by rw [rj];exact HM.out) (by rw [HA.out];exact hp)))
            have lI:=qqh (kg.out x p HE.out)
            have hx:=HXN.out x p HE.out
            have Dk:=qqh (fun(W:World) (h:av W C A n c L a)=>show Calls Tryz.prog 35 #[.pointer (some ⟨C,0,none⟩)] W (rQ W C A n c L (.error (x,p))) by have:=pX.out W a h;rwa [hp]at this)
            clear hp hneg
            go_upto_region 11 with fail
            have iH:=qqh (gx.out.on (aC (Below.refl w4.heap.size w4)))
            have hCC:=gx.out.hC
            -- {err
            refine az (S:=fun _=>True) [] (by kernel_rfl) trivial (fun _=>?_)
            refine fy (i:=0) (j:=1) (o:=⟨some 37,_,_,_,_,_⟩) (o2:=⟨some 38,_,_,_,_,_⟩) (by kernel_rfl) rfl rfl (fun K hK=>?_) (fun K hK=>?_)
            · go_simp
              try dsimp only
              refine hK.out _ _ trivial (fun _=>?_)
              clear hK K
              try simp only [zp,za,z0,zs]
              refine aF (i:=1) (o:=⟨some 38,_,_,_,_,_⟩) (by kernel_rfl) rfl (fun K hK=>?_)
              go_simp
              try dsimp only
              refine hK.out _ _ trivial (fun _=>?_)
              clear hK K
              try simp only [zp,za,z0,zs]
              refine aF (i:=2) (o:=⟨some 39,_,_,_,_,_⟩) (by kernel_rfl) rfl (fun K hK=>?_)
              go_simp
              go_at_call 35
              refine(Dk.out _ iH.out.cur).mono ?_
              rintro e w5 ⟨he,cY⟩
              unfold aS at he
              subst he
              have Ec:=(cY.2.2.2.2 _ iH.out.res.lt (by omega)).trans iH.out.res
              have Lm:=(cY.2.2.2.2 _ iH.out.flt.lt (by omega)).trans iH.out.flt
              have Dr:=qqh Ec
              have jT:=qqh Lm
              have dN:=qqh (iH.out.below.trans (cY.to iH.out.below.size (by omega)))
              clear cY Ec Lm
              go_wp2_with fail
              refine gE _ (w.heap.size+1) w.heap.size w.heap.size x p 0 0 _ _ _ _ _ rfl rfl jT.out Dr.out (by omega) (by omega) (Nat.le_refl _) dN.out.size hx (fun W2 aR=>?_)
              rw [lI.out]
              exact⟨⟨none,0,0,rfl,gF.nil _ _,Nat.le_refl _⟩,dN.out.trans aR⟩
            · go_simp
              try dsimp only
              refine hK.out _ _ trivial (fun _=>?_)
              clear hK K
              try simp only [zp,za,z0,zs]
              refine fy (i:=0) (j:=2) (o:=⟨some 37,_,_,_,_,_⟩) (o2:=⟨some 39,_,_,_,_,_⟩) (by kernel_rfl) rfl rfl (fun K hK=>?_) (fun K hK=>?_)
              · go_simp
                try dsimp only
                refine hK.out _ _ trivial (fun _=>?_)
                clear hK K
                try simp only [zp,za,z0,zs]
                refine aF (i:=2) (o:=⟨some 39,_,_,_,_,_⟩) (by kernel_rfl) rfl (fun K hK=>?_)
                go_simp
                go_at_call 35
                refine(Dk.out _ iH.out.cur).mono ?_
                rintro e w5 ⟨he,cY⟩
                unfold aS at he
                subst he
                have Ec:=(cY.2.2.2.2 _ iH.out.res.lt (by omega)).trans iH.out.res
                have Lm:=(cY.2.2.2.2 _ iH.out.flt.lt (by omega)).trans iH.out.flt
                have Dr:=qqh Ec
                have jT:=qqh Lm
                have dN:=qqh (iH.out.below.trans (cY.to iH.out.below.size (by omega)))
                clear cY Ec Lm
                go_wp2_with fail
                refine gE _ (w.heap.size+1) w.heap.size w.heap.size x p 0 0 _ _ _ _ _ rfl rfl jT.out Dr.out (by omega) (by omega) (Nat.le_refl _) dN.out.size hx (fun W2 aR=>?_)
                rw [lI.out]
                exact⟨⟨none,0,0,rfl,gF.nil _ _,Nat.le_refl _⟩,dN.out.trans aR⟩
              · go_simp
                go_at_call 35
                refine(Dk.out _ iH.out.cur).mono ?_
                rintro e w5 ⟨he,cY⟩
                unfold aS at he
                subst he
                have Ec:=(cY.2.2.2.2 _ iH.out.res.lt (by omega)).trans iH.out.res
                have Lm:=(cY.2.2.2.2 _ iH.out.flt.lt (by omega)).trans iH.out.flt
                have Dr:=qqh Ec
                have jT:=qqh Lm
                have dN:=qqh (iH.out.below.trans (cY.to iH.out.below.size (by omega)))
                clear cY Ec Lm
                go_wp2_with fail
                refine gE _ (w.heap.size+1) w.heap.size w.heap.size x p 0 0 _ _ _ _ _ rfl rfl jT.out Dr.out (by omega) (by omega) (Nat.le_refl _) dN.out.size hx (fun W2 aR=>?_)
                rw [lI.out]
                exact⟨⟨none,0,0,rfl,gF.nil _ _,Nat.le_refl _⟩,dN.out.trans aR⟩
            -- err}
          | ok q=>
            obtain⟨p,j2⟩:=q
            have Dk:=qqh (fun(W:World) (h:av W C A n c L a)=>show Calls Tryz.prog 35 #[.pointer (some ⟨C,0,none⟩)] W (rQ W C A n c L (.ok (p,j2))) by have:=pX.out W a h;rwa [hp]at this)
            have HP:=qqh hp
            have iH:=qqh (gx.out.on (aC (Below.refl w4.heap.size w4)))
            have hCC:=gx.out.hC
            have Ph:=qqh (fun(b:Nat) (hb:w4.heap.size≤b)=>gx.out.own.apart hb)
            have Vw:=qqh (show(acc++[p]).length=al+1 by rw [List.length_append,rj];rfl)
            clear hp hneg
            go_upto_region 11 with fail
            go_cut [] from 21 to 47 (fun wx=>∃ v':Value,tK w C A n c L wx j2 v' (acc++[p])∧C+1≤wx.heap.size)
            case first=>
              -- {ok
              refine az (S:=fun _=>True) [] (by kernel_rfl) trivial (fun _=>?_)
              refine fy (i:=0) (j:=1) (o:=⟨some 37,_,_,_,_,_⟩) (o2:=⟨some 38,_,_,_,_,_⟩) (by kernel_rfl) rfl rfl (fun K hK=>?_) (fun K hK=>?_)
              · go_simp
                try dsimp only
                refine hK.out _ _ trivial (fun _=>?_)
                clear hK K
                try simp only [zp,za,z0,zs]
                refine aF (i:=1) (o:=⟨some 38,_,_,_,_,_⟩) (by kernel_rfl) rfl (fun K hK=>?_)
                go_simp
                try dsimp only
                refine hK.out _ _ trivial (fun _=>?_)
                clear hK K
                try simp only [zp,za,z0,zs]
                refine aF (i:=2) (o:=⟨some 39,_,_,_,_,_⟩) (by kernel_rfl) rfl (fun K hK=>?_)
                go_simp
                go_at_call 35
                refine(Dk.out _ iH.out.cur).mono ?_
                rintro e w5 ⟨⟨cs,rfl,hpx⟩,lD,cY⟩
                obtain⟨v0,v1,v2,v3,v4,v5,v6,v7,v8,v9,v10,v11,v12,tX,uh,uo,rfl⟩:=nu hpx
                have jT:=qqh (iH.out.step lD cY)
                have Su:C+1≤w5.heap.size:=Nat.le_trans YU cY.1
                have xm:=qqh (ej.keep (X':=vc (C+1) C (.slice Av al cv)) (show aa w5 (ur w4.drew C) w5 (vc (C+1) C (.slice Av al cv)) from fun b h hl=>⟨rfl,⟨by have:=h.1;have h0:w4.drew.heap.size=w4.heap.size:=rfl;omega,h.2,Ph.out b (Nat.le_of_lt h.1)⟩,hl⟩) hpx)
                have r5:=jT.out.res.cell 0
                clear hpx lD cY
                try dsimp only
                refine hK.out _ _ trivial (fun _=>?_)
                clear hK K
                try simp only [zp,za,z0,zs]
                refine aF (i:=3) (o:=⟨some 40,_,_,_,_,_⟩) (by kernel_rfl) rfl (fun K hK=>?_)
                have gy:Below w5.heap.size w5 (w5.alloc (.cells #[v0,v1,v2,v3,v4,v5,v6,v7,v8,v9,v10,v11,v12,tX,uh,uo] 97)):=(Below.refl _ _).alloc (Nat.le_refl _) _
                have vO:=qqh (jT.out.on gy)
                have Ef:=qqh (xm.out.keep (aa.any gy))
                obtain⟨ys,fQ,ec⟩:=vO.out.own.push p Ef.out
                rw [rj]at fQ ec
                have xu:=qqh fQ
                have xE:=qqh ec
                have BJ:=qqh (Rd.new w5 97 16 1 [v0,v1,v2,v3,v4,v5,v6,v7,v8,v9,v10,v11,v12,tX,uh,uo] rfl)
                have qw:=qqh xm.out.one.2
                have hsz:C+1≤(w5.alloc (.cells #[v0,v1,v2,v3,v4,v5,v6,v7,v8,v9,v10,v11,v12,tX,uh,uo] 97)).heap.size:=Nat.le_trans Su gy.size
                have r8:(w5.alloc (.cells #[v0,v1,v2,v3,v4,v5,v6,v7,v8,v9,v10,v11,v12,tX,uh,uo] 97)).cell? ⟨w.heap.size,0,none⟩=some (.slice Av al cv):=vO.out.res.cell 0
                clear gy fQ ec
                go_simp
                try dsimp only
                refine hK.out _ _ trivial (fun _=>?_)
                clear hK K
                try simp only [zp,za,z0,zs]
                refine aF (i:=4) (o:=⟨some 41,_,_,_,_,_⟩) (by kernel_rfl) rfl (fun K hK=>?_)
                refine cA _ rfl (.tmp 37) (.tmp 40) 48 rfl (C+1) 97 i0 _ 16 232 Tryz.underlying48 Jf u0 z1 z2 rfl (by decide) _ _ _ rfl xu.out (w5.heap.size+1) (some ⟨w5.heap.size,0,none⟩) 1 1 [v0,v1,v2,v3,v4,v5,v6,v7,v8,v9,v10,v11,v12,tX,uh,uo] rfl BJ.out qw.out (by simp only [maxLen];omega) (by omega) hsz ?_
                intro v' w9 an
                obtain⟨A9,c9,Le,_⟩:=(xE.out v' w9 an).form
                rw [Vw.out]at Le
                subst Le
                have nV:=qqh (vO.out.push xu.out an (xE.out _ w9 an) hsz)
                have cj:=an.below hsz xu.out
                have x9:w9.cell? ⟨w.heap.size,0,none⟩=some (.slice Av al cv):=(cj.cell (p:=⟨w.heap.size,0,none⟩) (show w.heap.size<C+1 by omega)).trans (vO.out.res.cell 0)
                have KB:ai w9 w.heap.size 48 #[.slice Av al cv]:=(cj.block w.heap.size (by omega)).trans vO.out.res
                have y9:=KB.frozen 0
                have M6:=cj.size
                clear an
                try dsimp only
                refine hK.out _ _ trivial (fun _=>?_)
                clear hK K
                try simp only [zp,za,z0,zs]
                refine aF (i:=5) (by kernel_rfl) rfl (fun K hK=>?_)
                go_simp
                try dsimp only
                refine hK.out _ _ trivial (fun _=>?_)
                clear hK K
                try simp only [Act.put,List.setIfInBounds_toArray,List.set_cons_zero,List.set_cons_succ]
                refine aJ (by kernel_rfl) ?_ _
                go_wp2_with fail
                go_meet
                exact⟨_,nV.out,by simpa using Nat.le_trans hsz M6⟩
              · go_simp
                try dsimp only
                refine hK.out _ _ trivial (fun _=>?_)
                clear hK K
                try simp only [Act.put,List.setIfInBounds_toArray,List.set_cons_zero,List.set_cons_succ]
                refine fy (i:=0) (j:=2) (o:=⟨some 37,_,_,_,_,_⟩) (o2:=⟨some 39,_,_,_,_,_⟩) (by kernel_rfl) rfl rfl (fun K hK=>?_) (fun K hK=>?_)
                · go_simp
                  try dsimp only
                  refine hK.out _ _ trivial (fun _=>?_)
                  clear hK K
                  try simp only [zp,za,z0,zs]
                  refine aF (i:=2) (o:=⟨some 39,_,_,_,_,_⟩) (by kernel_rfl) rfl (fun K hK=>?_)
                  go_simp
                  go_at_call 35
                  refine(Dk.out _ iH.out.cur).mono ?_
                  rintro e w5 ⟨⟨cs,rfl,hpx⟩,lD,cY⟩
                  obtain⟨v0,v1,v2,v3,v4,v5,v6,v7,v8,v9,v10,v11,v12,tX,uh,uo,rfl⟩:=nu hpx
                  have jT:=qqh (iH.out.step lD cY)
                  have Su:C+1≤w5.heap.size:=Nat.le_trans YU cY.1
                  have xm:=qqh (ej.keep (X':=vc (C+1) C (.slice Av al cv)) (show aa w5 (ur w4.drew C) w5 (vc (C+1) C (.slice Av al cv)) from fun b h hl=>⟨rfl,⟨by have:=h.1;have h0:w4.drew.heap.size=w4.heap.size:=rfl;omega,h.2,Ph.out b (Nat.le_of_lt h.1)⟩,hl⟩) hpx)
                  have r5:=jT.out.res.cell 0
                  clear hpx lD cY
                  try dsimp only
                  refine hK.out _ _ trivial (fun _=>?_)
                  clear hK K
                  try simp only [zp,za,z0,zs]
                  refine aF (i:=3) (o:=⟨some 40,_,_,_,_,_⟩) (by kernel_rfl) rfl (fun K hK=>?_)
                  have gy:Below w5.heap.size w5 (w5.alloc (.cells #[v0,v1,v2,v3,v4,v5,v6,v7,v8,v9,v10,v11,v12,tX,uh,uo] 97)):=(Below.refl _ _).alloc (Nat.le_refl _) _
                  have vO:=qqh (jT.out.on gy)
                  have Ef:=qqh (xm.out.keep (aa.any gy))
                  obtain⟨ys,fQ,ec⟩:=vO.out.own.push p Ef.out
                  rw [rj]at fQ ec
                  have xu:=qqh fQ
                  have xE:=qqh ec
                  have BJ:=qqh (Rd.new w5 97 16 1 [v0,v1,v2,v3,v4,v5,v6,v7,v8,v9,v10,v11,v12,tX,uh,uo] rfl)
                  have qw:=qqh xm.out.one.2
                  have hsz:C+1≤(w5.alloc (.cells #[v0,v1,v2,v3,v4,v5,v6,v7,v8,v9,v10,v11,v12,tX,uh,uo] 97)).heap.size:=Nat.le_trans Su gy.size
                  have r8:(w5.alloc (.cells #[v0,v1,v2,v3,v4,v5,v6,v7,v8,v9,v10,v11,v12,tX,uh,uo] 97)).cell? ⟨w.heap.size,0,none⟩=some (.slice Av al cv):=vO.out.res.cell 0
                  clear gy fQ ec
                  go_simp
                  try dsimp only
                  refine hK.out _ _ trivial (fun _=>?_)
                  clear hK K
                  try simp only [zp,za,z0,zs]
                  refine aF (i:=4) (o:=⟨some 41,_,_,_,_,_⟩) (by kernel_rfl) rfl (fun K hK=>?_)
                  refine cA _ rfl (.tmp 37) (.tmp 40) 48 rfl (C+1) 97 i0 _ 16 232 Tryz.underlying48 Jf u0 z1 z2 rfl (by decide) _ _ _ rfl xu.out (w5.heap.size+1) (some ⟨w5.heap.size,0,none⟩) 1 1 [v0,v1,v2,v3,v4,v5,v6,v7,v8,v9,v10,v11,v12,tX,uh,uo] rfl BJ.out qw.out (by simp only [maxLen];omega) (by omega) hsz ?_
                  intro v' w9 an
                  obtain⟨A9,c9,Le,_⟩:=(xE.out v' w9 an).form
                  rw [Vw.out]at Le
                  subst Le
                  have nV:=qqh (vO.out.push xu.out an (xE.out _ w9 an) hsz)
                  have cj:=an.below hsz xu.out
                  have x9:w9.cell? ⟨w.heap.size,0,none⟩=some (.slice Av al cv):=(cj.cell (p:=⟨w.heap.size,0,none⟩) (show w.heap.size<C+1 by omega)).trans (vO.out.res.cell 0)
                  have KB:ai w9 w.heap.size 48 #[.slice Av al cv]:=(cj.block w.heap.size (by omega)).trans vO.out.res
                  have y9:=KB.frozen 0
                  have M6:=cj.size
                  clear an
                  try dsimp only
                  refine hK.out _ _ trivial (fun _=>?_)
                  clear hK K
                  try simp only [zp,za,z0,zs]
                  refine aF (i:=5) (by kernel_rfl) rfl (fun K hK=>?_)
                  go_simp
                  try dsimp only
                  refine hK.out _ _ trivial (fun _=>?_)
                  clear hK K
                  try simp only [Act.put,List.setIfInBounds_toArray,List.set_cons_zero,List.set_cons_succ]
                  refine aJ (by kernel_rfl) ?_ _
                  go_wp2_with fail
                  go_meet
                  exact⟨_,nV.out,by simpa using Nat.le_trans hsz M6⟩
                · go_simp
                  go_at_call 35
                  refine(Dk.out _ iH.out.cur).mono ?_
                  rintro e w5 ⟨⟨cs,rfl,hpx⟩,lD,cY⟩
                  obtain⟨v0,v1,v2,v3,v4,v5,v6,v7,v8,v9,v10,v11,v12,tX,uh,uo,rfl⟩:=nu hpx
                  have jT:=qqh (iH.out.step lD cY)
                  have Su:C+1≤w5.heap.size:=Nat.le_trans YU cY.1
                  have xm:=qqh (ej.keep (X':=vc (C+1) C (.slice Av al cv)) (show aa w5 (ur w4.drew C) w5 (vc (C+1) C (.slice Av al cv)) from fun b h hl=>⟨rfl,⟨by have:=h.1;have h0:w4.drew.heap.size=w4.heap.size:=rfl;omega,h.2,Ph.out b (Nat.le_of_lt h.1)⟩,hl⟩) hpx)
                  have r5:=jT.out.res.cell 0
                  clear hpx lD cY
                  try dsimp only
                  refine hK.out _ _ trivial (fun _=>?_)
                  clear hK K
                  try simp only [Act.put,List.setIfInBounds_toArray,List.set_cons_zero,List.set_cons_succ]
                  refine fy (i:=0) (j:=3) (o:=⟨some 37,_,_,_,_,_⟩) (o2:=⟨some 40,_,_,_,_,_⟩) (by kernel_rfl) rfl rfl (fun K hK=>?_) (fun K hK=>?_)
                  · go_simp
                    try dsimp only
                    refine hK.out _ _ trivial (fun _=>?_)
                    clear hK K
                    try simp only [zp,za,z0,zs]
                    refine aF (i:=3) (o:=⟨some 40,_,_,_,_,_⟩) (by kernel_rfl) rfl (fun K hK=>?_)
                    have gy:Below w5.heap.size w5 (w5.alloc (.cells #[v0,v1,v2,v3,v4,v5,v6,v7,v8,v9,v10,v11,v12,tX,uh,uo] 97)):=(Below.refl _ _).alloc (Nat.le_refl _) _
                    have vO:=qqh (jT.out.on gy)
                    have Ef:=qqh (xm.out.keep (aa.any gy))
                    obtain⟨ys,fQ,ec⟩:=vO.out.own.push p Ef.out
                    rw [rj]at fQ ec
                    have xu:=qqh fQ
                    have xE:=qqh ec
                    have BJ:=qqh (Rd.new w5 97 16 1 [v0,v1,v2,v3,v4,v5,v6,v7,v8,v9,v10,v11,v12,tX,uh,uo] rfl)
                    have qw:=qqh xm.out.one.2
                    have hsz:C+1≤(w5.alloc (.cells #[v0,v1,v2,v3,v4,v5,v6,v7,v8,v9,v10,v11,v12,tX,uh,uo] 97)).heap.size:=Nat.le_trans Su gy.size
                    have r8:(w5.alloc (.cells #[v0,v1,v2,v3,v4,v5,v6,v7,v8,v9,v10,v11,v12,tX,uh,uo] 97)).cell? ⟨w.heap.size,0,none⟩=some (.slice Av al cv):=vO.out.res.cell 0
                    clear gy fQ ec
                    go_simp
                    try dsimp only
                    refine hK.out _ _ trivial (fun _=>?_)
                    clear hK K
                    try simp only [zp,za,z0,zs]
                    refine aF (i:=4) (o:=⟨some 41,_,_,_,_,_⟩) (by kernel_rfl) rfl (fun K hK=>?_)
                    refine cA _ rfl (.tmp 37) (.tmp 40) 48 rfl (C+1) 97 i0 _ 16 232 Tryz.underlying48 Jf u0 z1 z2 rfl (by decide) _ _ _ rfl xu.out (w5.heap.size+1) (some ⟨w5.heap.size,0,none⟩) 1 1 [v0,v1,v2,v3,v4,v5,v6,v7,v8,v9,v10,v11,v12,tX,uh,uo] rfl BJ.out qw.out (by simp only [maxLen];omega) (by omega) hsz ?_
                    intro v' w9 an
                    obtain⟨A9,c9,Le,_⟩:=(xE.out v' w9 an).form
                    rw [Vw.out]at Le
                    subst Le
                    have nV:=qqh (vO.out.push xu.out an (xE.out _ w9 an) hsz)
                    have cj:=an.below hsz xu.out
                    have x9:w9.cell? ⟨w.heap.size,0,none⟩=some (.slice Av al cv):=(cj.cell (p:=⟨w.heap.size,0,none⟩) (show w.heap.size<C+1 by omega)).trans (vO.out.res.cell 0)
                    have KB:ai w9 w.heap.size 48 #[.slice Av al cv]:=(cj.block w.heap.size (by omega)).trans vO.out.res
                    have y9:=KB.frozen 0
                    have M6:=cj.size
                    clear an
                    try dsimp only
                    refine hK.out _ _ trivial (fun _=>?_)
                    clear hK K
                    try simp only [zp,za,z0,zs]
                    refine aF (i:=5) (by kernel_rfl) rfl (fun K hK=>?_)
                    go_simp
                    try dsimp only
                    refine hK.out _ _ trivial (fun _=>?_)
                    clear hK K
                    try simp only [Act.put,List.setIfInBounds_toArray,List.set_cons_zero,List.set_cons_succ]
                    refine aJ (by kernel_rfl) ?_ _
                    go_wp2_with fail
                    go_meet
                    exact⟨_,nV.out,by simpa using Nat.le_trans hsz M6⟩
                  · have gy:Below w5.heap.size w5 (w5.alloc (.cells #[v0,v1,v2,v3,v4,v5,v6,v7,v8,v9,v10,v11,v12,tX,uh,uo] 97)):=(Below.refl _ _).alloc (Nat.le_refl _) _
                    have vO:=qqh (jT.out.on gy)
                    have Ef:=qqh (xm.out.keep (aa.any gy))
                    obtain⟨ys,fQ,ec⟩:=vO.out.own.push p Ef.out
                    rw [rj]at fQ ec
                    have xu:=qqh fQ
                    have xE:=qqh ec
                    have BJ:=qqh (Rd.new w5 97 16 1 [v0,v1,v2,v3,v4,v5,v6,v7,v8,v9,v10,v11,v12,tX,uh,uo] rfl)
                    have qw:=qqh xm.out.one.2
                    have hsz:C+1≤(w5.alloc (.cells #[v0,v1,v2,v3,v4,v5,v6,v7,v8,v9,v10,v11,v12,tX,uh,uo] 97)).heap.size:=Nat.le_trans Su gy.size
                    have r8:(w5.alloc (.cells #[v0,v1,v2,v3,v4,v5,v6,v7,v8,v9,v10,v11,v12,tX,uh,uo] 97)).cell? ⟨w.heap.size,0,none⟩=some (.slice Av al cv):=vO.out.res.cell 0
                    clear gy fQ ec
                    go_simp
                    try dsimp only
                    refine hK.out _ _ trivial (fun _=>?_)
                    clear hK K
                    try simp only [Act.put,List.setIfInBounds_toArray,List.set_cons_zero,List.set_cons_succ]
                    refine aF (i:=0) (o:=⟨some 37,_,_,_,_,_⟩) (by kernel_rfl) rfl (fun K hK=>?_)
                    go_simp
                    try dsimp only
                    refine hK.out _ _ trivial (fun _=>?_)
                    clear hK K
                    try simp only [zp,za,z0,zs]
                    refine aF (i:=4) (o:=⟨some 41,_,_,_,_,_⟩) (by kernel_rfl) rfl (fun K hK=>?_)
                    refine cA _ rfl (.tmp 37) (.tmp 40) 48 rfl (C+1) 97 i0 _ 16 232 Tryz.underlying48 Jf u0 z1 z2 rfl (by decide) _ _ _ rfl xu.out (w5.heap.size+1) (some ⟨w5.heap.size,0,none⟩) 1 1 [v0,v1,v2,v3,v4,v5,v6,v7,v8,v9,v10,v11,v12,tX,uh,uo] rfl BJ.out qw.out (by simp only [maxLen];omega) (by omega) hsz ?_
                    intro v' w9 an
                    obtain⟨A9,c9,Le,_⟩:=(xE.out v' w9 an).form
                    rw [Vw.out]at Le
                    subst Le
                    have nV:=qqh (vO.out.push xu.out an (xE.out _ w9 an) hsz)
                    have cj:=an.below hsz xu.out
                    have x9:w9.cell? ⟨w.heap.size,0,none⟩=some (.slice Av al cv):=(cj.cell (p:=⟨w.heap.size,0,none⟩) (show w.heap.size<C+1 by omega)).trans (vO.out.res.cell 0)
                    have KB:ai w9 w.heap.size 48 #[.slice Av al cv]:=(cj.block w.heap.size (by omega)).trans vO.out.res
                    have y9:=KB.frozen 0
                    have M6:=cj.size
                    clear an
                    try dsimp only
                    refine hK.out _ _ trivial (fun _=>?_)
                    clear hK K
                    try simp only [zp,za,z0,zs]
                    refine aF (i:=5) (by kernel_rfl) rfl (fun K hK=>?_)
                    go_simp
                    try dsimp only
                    refine hK.out _ _ trivial (fun _=>?_)
                    clear hK K
                    try simp only [Act.put,List.setIfInBounds_toArray,List.set_cons_zero,List.set_cons_succ]
                    refine aJ (by kernel_rfl) ?_ _
                    go_wp2_with fail
                    go_meet
                    exact⟨_,nV.out,by simpa using Nat.le_trans hsz M6⟩
              -- ok}
            case rest=>
              obtain⟨v6,UF,hC6⟩:=hcut
              have rC:=qqh UF
              have ae8:al<200:=by have:=HM.out;omega
              clear UF r4
              go_wp2_with fail
              refine(pW.out _ j2 rC.out.cur).mono ?_
              rintro e w7 ⟨rfl,qO,gw⟩
              have tE:=qqh (rC.out.step qO gw)
              have hC7:C+1≤w7.heap.size:=Nat.le_trans hC6 gw.1
              clear qO gw
              obtain⟨b,hb⟩:∃ b,ay L j2=b:=⟨_,rfl⟩
              have HB:=qqh hb
              rw [hb]at tE
              clear hb
              have Ls:=qqh (I8.out _ b 59 tE.out.cur (by decide))
              cases hnd:aQ L b 59 with
              | error e0=>
                obtain⟨x,q⟩:=e0
                have HE:=qqh (dQ.out.trans (DT (by rw [HA.out];have:=HNG.out;omega) (by rw [rj];exact HM.out) (by rw [HA.out];exact HP.out) (by rw [HB.out];exact hnd)))
                have lI:=qqh (kg.out x q HE.out)
                have hx:=HXN.out x q HE.out
                rw [hnd]at Ls
                clear hnd
                go_wp2_with fail
                refine Ls.out.mono ?_
                rintro e w8 ⟨he,gy⟩
                unfold aS at he
                subst he
                have hr8:=(gy.2.2.2.2 _ tE.out.res.lt (by omega)).trans tE.out.res
                have Wm:=(gy.2.2.2.2 _ tE.out.flt.lt (by omega)).trans tE.out.flt
                have HR8:=qqh hr8
                have wR:=qqh Wm
                have xk:=qqh (tE.out.below.trans (gy.to tE.out.below.size (by omega)))
                clear gy hr8 Wm
                go_wp2_with fail
                refine gE _ (w.heap.size+1) w.heap.size w.heap.size x q 0 0 _ _ _ _ _ rfl rfl wR.out HR8.out (by omega) (by omega) (Nat.le_refl _) xk.out.size hx (fun W2 aR=>?_)
                rw [lI.out]
                exact⟨⟨none,0,0,rfl,gF.nil _ _,Nat.le_refl _⟩,xk.out.trans aR⟩
              | ok k=>
                have ff:=qqh (dQ.out.trans (E1 (by rw [HA.out];have:=HNG.out;omega) (by rw [rj];exact HM.out) (by rw [HA.out];exact HP.out) (by rw [HB.out];exact hnd)))
                have HKB:=qqh (show k=b+1 from(fF hnd).1)
                have sC:=qqh (Jv HV.out.ok (by rw [NU.out];exact han) HP.out)
                rw [hnd]at Ls
                clear hnd
                go_wp2_with fail
                refine Ls.out.mono ?_
                rintro e w8 ⟨rfl,FR,gy⟩
                have wR:=qqh (tE.out.step FR gy)
                have hC8:C+1≤w8.heap.size:=Nat.le_trans hC7 gy.1
                clear FR gy
                go_wp2_with fail
                refine(pW.out _ k wR.out.cur).mono ?_
                rintro e w9 ⟨rfl,Fs,cj⟩
                have nV:=qqh (wR.out.step Fs cj)
                have hC9:C+1≤w9.heap.size:=Nat.le_trans hC8 cj.1
                clear Fs cj
                go_wp2_with fail
                have hge:a≤b:=by have h1:=sC.out.1;have h2:=de L j2;rw [HB.out]at h2;omega
                have hkb:=HKB.out
                have hkn:=wR.out.cur.le
                refine⟨⟨f,k,acc++[p],v6,hkn,by omega,ff.out,by rw [List.length_append,rj];simp;omega,nV.out,hC9⟩,?_⟩
                have e1:w9.cell? ⟨C,1,none⟩=some (.int .i64 ((ay L k:Nat):Int)):=nV.out.cur.blk.cell 1
                have e2:=nT.out
                have hle:=nV.out.cur.le
                have afd:=de L k
                rw [e1,e2]
                simp only [Int.toNat_natCast,List.getElem?_toArray,List.getElem?_cons_succ,List.getElem?_cons_zero]
                omega
def iW (w:World) (A:Option Addr) (n:Nat):Prop:=∃ l:List ax,bH (aW w (fun _=>True)) w (fun _=>True) 7 A n l∧n≤maxLen
theorem iW.nil (w:World):iW w none 0:=⟨[],⟨[],rfl,rfl,by simp,by simp,cE.nil 7⟩,Nat.zero_le _⟩
theorem iW.below {w w':World} {A:Option Addr} {n:Nat} (hb:Below w.heap.size w w') (h:iW w A n):iW w' A n:=by
 obtain⟨l,h1,h2⟩:=h;exact⟨l,h1.keep (aa.any hb) (fun _ _=>aW.keep (aa.any hb)),h2⟩
def oV (w:World) (e:Ending) (w':World):Prop:=(∃ A n c B m d ok,e=.returned (.tuple #[.slice A n c,.slice B m d,.bool ok])∧(ok=true→iW w' A n∧iW w' B m))∧Below w.heap.size w w'
theorem gW (w w':World) (hb:Below w.heap.size w w'):oV w (.returned (.tuple #[.slice none 0 0,.slice none 0 0,.bool false])) w' :=
  ⟨⟨none,0,0,none,0,0,false,rfl,fun h=>by cases h⟩,hb⟩
theorem pQ {w:World} {X:Nat→Prop} {s:bS} {cs:List Value} (h:gv w X s cs):∃ A1 n1 c1 A2 n2 c2,cs = [.bool s.only?,.slice A1 n1 c1,.slice A2 n2 c2]∧iA w X s A1 n1 A2 n2:=by
 obtain⟨u,v,rfl,⟨A1,n1,c1,rfl,q1,q2⟩,⟨A2,n2,c2,rfl,q3,q4⟩⟩:=h;exact⟨A1,n1,c1,A2,n2,c2,rfl,q1,q3,q2,q4⟩
theorem r9 {w:World} {X:Nat→Prop} {s:bS} {A1 A2:Option Addr} {n1 c1 n2 c2:Nat} (h:gv w X s [.bool s.only?,.slice A1 n1 c1,.slice A2 n2 c2]):iA w X s A1 n1 A2 n2:=by
 obtain⟨_,_,he,⟨_,_,_,rfl,q1,q2⟩,⟨_,_,_,rfl,q3,q4⟩⟩:=h;injection he with _ he;injection he with e1 he;injection he with e2 _;cases e1;cases e2;exact⟨q1,q3,q2,q4⟩
theorem nY {B:Nat} {a w:World} (h:Below B a w) (n:Nat):Below B a (w.drewN n):=h.trans ⟨rfl,rfl,rfl,Nat.le_refl _,fun _ _=>rfl⟩
theorem ai.C6 {w:World} {g b i:Nat} {t:TypeId} {cs:Array Value} (h:ai w g t cs) (hne:g≠b) (u:Value):ai (w.setCell ⟨b,i,none⟩ u) g t cs :=
  (Below.heap_setCell _ _ _ _ hne).trans h
theorem Ff (s:ByteArray) (hs:s.size≤1099511627776) (w:World) :
    Calls Tryz.prog 6 #[.string s] w (oV w):=by
 have kF:=qqh (wN s w hs);unfold rW at kF;have Kf:=(zK (fP.ok (kY s))).2;go_enter Tryz.func6,Tryz.ntmps6;go_wp2_with fail;refine kF.out.mono ?_;rintro e w1 ⟨⟨A,n,c,rfl,hx,hnc⟩,aP⟩;obtain⟨L,f1,f2,hP⟩:∃ L f1 f2,gU (dz s 0)=(L,(f1,f2)):=⟨_,_,_,rfl⟩;rw [hP]at hx Kf ⊢;dsimp only at hx Kf ⊢;have hba:=(Below.refl w1.heap.size w1).alloc (Nat.le_refl _) (.cells #[.int .i64 f1,.int .i64 f2] 32);have bI:=qqh (aP.trans (hba.mono aP.size));have fU:=qqh (ai.new w1 32 #[.int .i64 f1,.int .i64 f2]);have hn:n≤maxLen:=(by have:=hx.len;simp only [maxLen];omega);have rY:=qqh (AV.weak (eO hba (Nat.le_refl _)) hx.rd);have iG:=qqh aP.size;clear aP hx hP hba Kf kF hnc;go_upto_region 2 with fail;have d0:=fU.out.cell 0;by_cases hz:f1=0
 ·subst hz;have YF:=qqh (yK w1.heap.size A n c L _ hn (by simp) rY.out);unfold rq at YF;go_wp2_with fail;refine YF.out.mono ?_;rintro e w2 ⟨⟨cs,_,rfl,hcs⟩,aR⟩;obtain⟨sc,g1,g2,hR⟩:∃ sc g1 g2,cG false L=(sc,(g1,g2)):=⟨_,_,_,rfl⟩;rw [hR]at hcs ⊢;dsimp only at hcs ⊢;obtain⟨A1,n1,c1,A2,n2,c2,rfl,_⟩:=pQ hcs;have Sr:=(fU.out.below aR fU.out.lt).alloc (.cells #[.bool sc.only?,.slice A1 n1 c1,.slice A2 n2 c2] 53);have hS2:=ai.new w2 53 #[.bool sc.only?,.slice A1 n1 c1,.slice A2 n2 c2];have xP:=(fU.out.below aR fU.out.lt).lt;have rj:=(Below.refl w2.heap.size w2).alloc (Nat.le_refl _) (.cells #[.bool sc.only?,.slice A1 n1 c1,.slice A2 n2 c2] 53);have hba:=((rj.mono (Nat.le_of_lt xP)).setCell (p:=⟨w1.heap.size,0,none⟩) (Nat.le_refl _) (.int .i64 g1)).setCell (p:=⟨w1.heap.size,1,none⟩) (Nat.le_refl _) (.int .i64 g2);have yz:=qqh (show Below w1.heap.size (w1.alloc (.cells #[.int .i64 0,.int .i64 f2] 32)) _ from(aR.mono (by simp)).trans hba);have bw:=qqh (bI.out.trans ((aR.trans (rj.mono aR.size)).mono bI.out.size) |>.setCell (p:=⟨w1.heap.size,0,none⟩) (iG.out) (.int .i64 g1) |>.setCell (p:=⟨w1.heap.size,1,none⟩) (iG.out) (.int .i64 g2));have Cl:=qqh (AV.weak (eO yz.out (Nat.le_refl _)) rY.out);have jl:=qqh (((hS2.C6 (i:=0) (Nat.ne_of_gt xP) (.int .i64 g1))).C6 (i:=1) (Nat.ne_of_gt xP) (.int .i64 g2));have eT:=qqh ((Sr.put 0 (.int .i64 g1)).put 1 (.int .i64 g2));have hkp:aa w2 (Fr w1.heap.size (w1.alloc (.cells #[.int .i64 0,.int .i64 f2] 32)).heap.size) (((w2.alloc (.cells #[.bool sc.only?,.slice A1 n1 c1,.slice A2 n2 c2] 53)).setCell ⟨w1.heap.size,0,none⟩ (.int .i64 g1)).setCell ⟨w1.heap.size,1,none⟩ (.int .i64 g2)) (fun _=>True):=by
   have hne:∀ b,Fr w1.heap.size (w1.alloc (.cells #[.int .i64 0,.int .i64 f2] 32)).heap.size b→b≠w1.heap.size:=by
    intro b hb;rcases hb with hb | hb;omega;simp at hb;omega
   exact((aa.below (X':=fun b=>b≠w1.heap.size) rj (fun b h _=>hne b h)).trans (aa.setCell (X':=fun b=>b≠w1.heap.size) _ (fun b h=>h) (fun b h _=>h))).trans (aa.setCell _ (fun b h=>h) (fun b h _=>trivial))
  have mB:=qqh (hcs.keep hkp);have f0:=Sr.frozen 0;have k0:=Sr.cell 0;have k1':=(Sr.put 0 (.int .i64 g1)).frozen 1;have k1:=(Sr.put 0 (.int .i64 g1)).cell 1;clear aR hcs hS2 rj hba hkp Sr rY bI YF xP d0;go_upto_region 5 with fail;clear f0 k0 k1' k1;generalize ((w2.alloc (.cells #[.bool sc.only?,.slice A1 n1 c1,.slice A2 n2 c2] 53)).setCell ⟨w1.heap.size,0,none⟩ (.int .i64 g1)).setCell ⟨w1.heap.size,1,none⟩ (.int .i64 g2)=W2 at *;have PR:=qqh (La w1.heap.size A n c L W2 hn (Nat.le_of_lt eT.out.lt) Cl.out);unfold rq at PR;go_wp2_with fail;refine PR.out.mono ?_;rintro e w3 ⟨⟨ds,_,rfl,hds⟩,bL⟩;obtain⟨sd,h1,h2,OX⟩:∃ sd h1 h2,cG true L=(sd,(h1,h2)):=⟨_,_,_,rfl⟩;rw [OX]at hds ⊢;dsimp only at hds ⊢;obtain⟨B1,m1,d1,B2,m2,d2,rfl,_⟩:=pQ hds;have rj:=((Below.refl w3.heap.size w3).alloc (Nat.le_refl _) (.cells #[.bool sd.only?,.slice B1 m1 d1,.slice B2 m2 d2] 53)).alloc (by simp) (.cells #[.int .i64 h1,.int .i64 h2] 32);have cC:=bL.trans (rj.mono bL.size);have bF:=qqh (bw.out.trans (cC.mono bw.out.size));have eo:=qqh (eT.out.below cC eT.out.lt);have Br:=qqh (jl.out.below cC jl.out.lt);have og:=qqh (mB.out.keep (aa.any cC));have HT3:=qqh ((ai.new w3 53 #[.bool sd.only?,.slice B1 m1 d1,.slice B2 m2 d2]).alloc (.cells #[.int .i64 h1,.int .i64 h2] 32))
  have DS:=qqh (show ai ((w3.alloc (.cells #[.bool sd.only?,.slice B1 m1 d1,.slice B2 m2 d2] 53)).alloc (.cells #[.int .i64 h1,.int .i64 h2] 32)) (w3.heap.size+1) 32 #[.int .i64 h1,.int .i64 h2] by simpa using ai.new (w3.alloc (.cells #[.bool sd.only?,.slice B1 m1 d1,.slice B2 m2 d2] 53)) 32 #[.int .i64 h1,.int .i64 h2]);have Xb:=qqh (hds.keep (aa.below rj (X':=fun _=>True) (fun _ _ _=>trivial)));clear bL hds rj cC bw eT jl mB Cl PR;go_upto_region 6 with fail;generalize (w3.alloc (.cells #[.bool sd.only?,.slice B1 m1 d1,.slice B2 m2 d2] 53)).alloc (.cells #[.int .i64 h1,.int .i64 h2] 32)=W3 at *;have q0:W3.cell? ⟨w1.heap.size,0,none⟩=some (.int .i64 g1):=eo.out.cell 0;have q1:W3.cell? ⟨w2.heap.size,0,none⟩=some (.bool sc.only?):=Br.out.cell 0;have q2:W3.cell? ⟨w2.heap.size,2,none⟩=some (.slice A2 n2 c2):=Br.out.cell 2;have q3:W3.cell? ⟨w3.heap.size,2,none⟩=some (.slice B2 m2 d2):=HT3.out.cell 2;have q4:W3.cell? ⟨w3.heap.size+1,0,none⟩=some (.int .i64 h1):=DS.out.cell 0;have jV:=r9 og.out;have aX:=r9 Xb.out;clear og Xb eo Br HT3 DS;have MC:=jV.pas.len;have adP:=aX.pas.len;by_cases hg:g1=0
  ·subst hg;by_cases hh:h1=0
   ·subst hh;obtain⟨so,O4⟩:∃ so,sc.only? = so:=⟨_,rfl⟩;rw [O4]at q1;cases so
    ·by_cases hn2:n2=1
     ·subst hn2;by_cases hm2:1<m2
      ·have hmt:decide ((1:Int)<(m2:Int))=true:=decide_eq_true (by omega);go_wp2_with fail;go_ret3;exact gW _ _ bF.out
      have hmt:decide ((1:Int)<(m2:Int))=false:=decide_eq_false (by omega);obtain⟨p,hp⟩:∃ p,sc.passes[0]? = some p:=⟨_,List.getElem?_eq_getElem (by omega)⟩;obtain⟨b,off,A',n',c',rfl,_,dV,hc0,hc1,hru,hn'⟩:=ql jV.pas hp;rw [Nat.zero_mul,Nat.add_zero]at hc0 hc1;have WU:=qqh (show iW W3 A' n' from⟨p.rules,hru,hn'⟩);by_cases hm0:m2=0
      ·subst hm0;go_wp2_with fail
       all_goals
         go_ret3
         first
         | exact gW _ _ bF.out
         | exact⟨⟨A',n',c',none,0,0,true,rfl,fun _=>⟨WU.out,iW.nil _⟩⟩,bF.out⟩
      obtain rfl:m2=1:=(by omega);obtain⟨p2,hp2⟩:∃ p,sd.passes[0]? = some p:=⟨_,List.getElem?_eq_getElem (by omega)⟩;obtain⟨b2,off2,Up,RW,Mx,rfl,_,YE,PE,sS,aao,ZM⟩:=ql aX.pas hp2;rw [Nat.zero_mul,Nat.add_zero]at PE sS;have Yv:=qqh (show iW W3 Up RW from⟨p2.rules,aao,ZM⟩);go_wp2_with fail
      ·go_ret3;exact gW _ _ bF.out
      go_quiet (fail);have DH:=nY bF.out nq;have cj:=nY (Below.refl W3.heap.size W3) nq;have h1:=WU.out.below cj;have h2:=Yv.out.below cj;go_wp2_with fail;go_ret3;exact⟨⟨A',n',c',Up,RW,Mx,_,rfl,fun _=>⟨h1,h2⟩⟩,DH⟩
     have UY:((n2:Int) == 1)=false:=(by rw [beq_eq_false_iff_ne];omega);go_wp2_with fail;go_ret3;exact gW _ _ bF.out
    go_wp2_with fail;go_ret3;exact gW _ _ bF.out
   go_wp2_with fail;go_ret3;exact gW _ _ bF.out
  go_wp2_with fail;go_ret3;exact gW _ _ bF.out
 go_wp2_with fail;go_ret3;exact gW _ _ bI.out
def Et:ByteArray:=⟨#[36,118,32,61,32,91,97,45,99,93,59,10,36,118,32,125,32,120,32,62,32,121,32,59,10,58,58,32,117,112,112,101,114,32,59,10]⟩
def JY:ByteArray:=⟨#[97,120,98,195,169]⟩
noncomputable def uT:List aH:=(gU (dz Et 0)).1
noncomputable def gO:bS:=(cG false uT).1
theorem JQ:(gU (dz Et 0)).2=(0,0):=by kernel_rfl
theorem MY:uT.length=3:=by kernel_rfl
theorem KF:(cG false uT).2=(0,0):=by kernel_rfl
theorem Oc:dz JY 0 = [97,120,98,233]:=by kernel_rfl
theorem LJ:O9 gO [97,120,98,233] =([89,88,66,201],(0,0)):=by kernel_rfl
theorem KR:runesBytes [89,88,66,201] =⟨#[89,88,66,195,137]⟩:=by decide +kernel
theorem Ij (w:World) :
    Calls Tryz.prog 5 #[] w fun e w'=>e=.returned (.bool true)∧Below w.heap.size w w':=by
 have kF:=qqh (show Calls Tryz.prog 13 #[.string ⟨#[36,118,32,61,32,91,97,45,99,93,59,10,36,118,32,125,32,120,32,62,32,121,32,59,10,58,58,32,117,112,112,101,114,32,59,10]⟩] w fun e w'=>(∃ A n c,e=.returned (.tuple #[.slice A n c,.agg #[.int .i64 0,.int .i64 0]])∧gF w' (fun b=>w.heap.size≤b) A n uT∧n≤c)∧Below w.heap.size w w' by
  have h:=wN Et w (by decide);unfold rW at h;rw [JQ]at h;exact h)
 have RM:=qqh (fun(W:World)=>show Calls Tryz.prog 7 #[.string ⟨#[97,120,98,195,169]⟩] W fun e w'=>∃ v,e=.returned v∧pE w' W.heap.size v [97,120,98,233]∧Below W.heap.size W w' by
  have h:=oW JY W (by decide);unfold Aw at h;rw [Oc]at h;exact h)
 go_enter Tryz.func5,Tryz.ntmps5;go_wp2_with fail;refine kF.out.mono ?_;rintro e w1 ⟨⟨A,n,c,rfl,hx,_⟩,aP⟩;have hba:=(Below.refl w1.heap.size w1).alloc (Nat.le_refl _) (.cells #[.int .i64 0,.int .i64 0] 32);have bI:=qqh (aP.trans (hba.mono aP.size));have fU:=qqh (ai.new w1 32 #[.int .i64 0,.int .i64 0]);have HN:=qqh (show n≤maxLen by have:=hx.len;rw [MY]at this;simp only [maxLen];omega);have rY:=qqh (AV.weak (eO hba hba.size) hx.rd);clear aP hx hba kF;go_wp2_with fail;refine(yK _ A n c uT _ HN.out (Nat.le_refl _) rY.out).mono ?_;rintro e w2 ⟨⟨cs,_,he,hcs⟩,aR⟩;rw [KF]at he;subst he;change gv _ _ gO _ at hcs;obtain⟨A1,n1,c1,A2,n2,c2,rfl,_⟩:=pQ hcs;have hbc:=((Below.refl w2.heap.size w2).alloc (Nat.le_refl _) (.cells #[.bool gO.only?,.slice A1 n1 c1,.slice A2 n2 c2] 53)).alloc (by simp) (.cells #[.int .i64 0,.int .i64 0] 32);have bw:=qqh ((bI.out.trans (aR.mono bI.out.size)).trans (hbc.mono (bI.out.trans (aR.mono bI.out.size)).size));have jl:=qqh ((ai.new w2 53 #[.bool gO.only?,.slice A1 n1 c1,.slice A2 n2 c2]).alloc (.cells #[.int .i64 0,.int .i64 0] 32));have kB:=qqh (show ai ((w2.alloc (.cells #[.bool gO.only?,.slice A1 n1 c1,.slice A2 n2 c2] 53)).alloc (.cells #[.int .i64 0,.int .i64 0] 32)) (w2.heap.size+1) 32 #[.int .i64 0,.int .i64 0] by simpa using ai.new (w2.alloc (.cells #[.bool gO.only?,.slice A1 n1 c1,.slice A2 n2 c2] 53)) 32 #[.int .i64 0,.int .i64 0])
 have eT:=qqh (ai.below (ai.below fU.out aR fU.out.lt) hbc (ai.below fU.out aR fU.out.lt).lt);have mB:=qqh (r9 (hcs.keep (aa.below hbc (X':=fun _=>True) (fun _ _ _=>trivial))));clear aR hcs hbc bI fU rY;go_upto_region 3 with fail;generalize (w2.alloc (.cells #[.bool gO.only?,.slice A1 n1 c1,.slice A2 n2 c2] 53)).alloc (.cells #[.int .i64 0,.int .i64 0] 32)=W2 at *;have s0:W2.cell? ⟨w2.heap.size,0,none⟩=some (.bool gO.only?):=jl.out.cell 0;have s1:W2.cell? ⟨w2.heap.size,1,none⟩=some (.slice A1 n1 c1):=jl.out.cell 1;have s2:W2.cell? ⟨w2.heap.size,2,none⟩=some (.slice A2 n2 c2):=jl.out.cell 2
 have HC:=qqh (fun(W:World) (hb:Below W2.heap.size W2 W)=>show W.cell? ⟨w2.heap.size,0,none⟩=some (.bool gO.only?)∧W.cell? ⟨w2.heap.size,1,none⟩=some (.slice A1 n1 c1)∧W.cell? ⟨w2.heap.size,2,none⟩=some (.slice A2 n2 c2) from
   ⟨(ai.below jl.out hb jl.out.lt).cell 0,(ai.below jl.out hb jl.out.lt).cell 1,(ai.below jl.out hb jl.out.lt).cell 2⟩)
 have dQ:=qqh (fun(W:World) (hb:Below W2.heap.size W2 W) (At:Option Addr) (ct:Nat) (hct:4≤ct) (ht:kJ W W.heap.size At 4 [97,120,98,233])=>show Calls Tryz.prog 15 #[.agg #[.bool gO.only?,.slice A1 n1 c1,.slice A2 n2 c2],.slice At 4 ct] W fun e w'=>DX W.heap.size w' ([89,88,66,201],(0,0)) e∧Below W.heap.size W w' by
  have h:=Kk (fun _=>True) gO [97,120,98,233] A1 A2 At n1 c1 n2 c2 4 ct W (mB.out.keep (aa.below hb (fun _ _ _=>trivial))) hct (by decide) ht;rwa [LJ]at h)
 unfold DX at dQ;go_cut [5,6] (fun UN VM wx=>∃ (A:Option Addr) (n c G:Nat),UN=.slice A n c∧VM=.pointer (some ⟨G,0,none⟩)∧kJ wx wx.heap.size A n [89,88,66,201]∧ai wx G 32 #[.int .i64 0,.int .i64 0]∧Below W2.heap.size W2 wx);case first=>
  refine az (S:=fun w'=>w'.cell? ⟨w2.heap.size,0,none⟩=some (.bool gO.only?)∧w'.cell? ⟨w2.heap.size,1,none⟩=some (.slice A1 n1 c1)∧w'.cell? ⟨w2.heap.size,2,none⟩=some (.slice A2 n2 c2)) [0] (by kernel_rfl) ⟨s0,s1,s2⟩ (fun bh=>?_);refine tu 0 17 ?_;(try simp only [zp,za,z0,zs]);refine fy (i:=1) (j:=6) (o:=⟨some 18,_,_,_,_,_⟩) (o2:=⟨some 6,_,_,_,_,_⟩) (by kernel_rfl) rfl rfl (fun K hK=>?_) (fun K hK=>?_)
  ·go_simp;go_at_call 7;refine(RM.out W2.drew).mono ?_;rintro e va ⟨ua,rfl,Rq,hda⟩;obtain⟨Da,ka,rfl,hka⟩:=aI Rq;have Cy:=qqh (show Below W2.heap.size W2 va from(aC (Below.refl W2.heap.size W2)).trans (hda.mono (aC (Below.refl W2.heap.size W2)).size));have Wg:=qqh (Rd.ck Rq);clear Rq hda;(try dsimp only);refine hK.out _ _ ?_ (fun bh=>?_);exact HC.out _ Cy.out;clear hK K;(try simp only [zp,za,z0,zs]);refine fy (i:=2) (j:=6) (o:=⟨some 19,_,_,_,_,_⟩) (o2:=⟨some 6,_,_,_,_,_⟩) (by kernel_rfl) rfl rfl (fun K hK=>?_) (fun K hK=>?_)
   ·go_simp;go_at_call 15;refine(dQ.out va Cy.out Da ka hka Wg.out).mono ?_;rintro e ga ⟨⟨Ba,ma,qa,rfl,pU⟩,hba⟩;have KK:=qqh (show Below W2.heap.size W2 ga from(Cy.out).trans (hba.mono (Cy.out).size));have U3:=qqh pU.of;clear pU hba;(try dsimp only);refine hK.out _ _ ?_ (fun bh=>?_);exact HC.out _ KK.out;clear hK K;(try simp only [zp,za,z0,zs]);refine tq 3 16 ?_;(try simp only [zp,za,z0,zs]);refine tq 4 20 ?_;(try simp only [zp,za,z0,zs]);refine tq 5 21 ?_;(try simp only [zp,za,z0,zs]);refine aF (i:=6) (o:=⟨some 6,_,_,_,_,_⟩) (by kernel_rfl) rfl (fun K hK=>?_);go_simp;(try dsimp only);refine hK.out _ _ ?_ (fun bh=>?_);exact HC.out _ (KK.out.alloc KK.out.size _);clear hK K;(try simp only [zp,za,z0,zs]);refine tq 7 5 ?_;(try simp only [zp,za,z0,zs]);refine aA (i:=8) (by kernel_rfl) rfl (by kernel_rfl) (fun K hK=>?_);go_simp;(try dsimp only);refine hK.out _ _ ?_;clear hK K;refine aJ (by kernel_rfl) ?_ _;go_simp;go_wp2_with fail;go_meet;exact⟨Ba,ma,qa,ga.heap.size,rfl,rfl,U3.out.below ((Below.refl _ _).alloc (Nat.le_refl _) _) |>.more (by simp),ai.new _ _ _,KK.out.alloc KK.out.size _⟩
   go_simp;(try dsimp only);refine hK.out _ _ ?_ (fun bh=>?_);exact HC.out _ (Cy.out.alloc Cy.out.size _);clear hK K;(try simp only [zp,za,z0,zs]);refine aF (i:=2) (o:=⟨some 19,_,_,_,_,_⟩) (by kernel_rfl) rfl (fun K hK=>?_);have U2:=qqh (ai.new va 32 #[.int .i64 0,.int .i64 0]);go_simp;go_at_call 15;refine(dQ.out (va.alloc (.cells #[.int .i64 0,.int .i64 0] 32)) (Cy.out.alloc Cy.out.size _) Da ka hka (Wg.out.below ((Below.refl _ _).alloc (Nat.le_refl _) _) |>.more (by simp))).mono ?_;rintro e ga ⟨⟨Ba,ma,qa,rfl,pU⟩,hba⟩;have KK:=qqh (show Below W2.heap.size W2 ga from((Cy.out.alloc Cy.out.size _)).trans (hba.mono ((Cy.out.alloc Cy.out.size _)).size));have U3:=qqh pU.of;have DM:=qqh (U2.out.below hba U2.out.lt);clear pU hba;(try dsimp only);refine hK.out _ _ ?_ (fun bh=>?_);exact HC.out _ KK.out;clear hK K;(try simp only [zp,za,z0,zs]);refine tq 3 16 ?_;(try simp only [zp,za,z0,zs]);refine tq 4 20 ?_;(try simp only [zp,za,z0,zs]);refine tq 5 21 ?_;(try simp only [zp,za,z0,zs]);refine tq 7 5 ?_;(try simp only [zp,za,z0,zs]);refine aA (i:=8) (by kernel_rfl) rfl (by kernel_rfl) (fun K hK=>?_);have z0:=DM.out.frozen 0;have z1:=(DM.out.put 0 (.int .i64 0)).frozen 1;have z2:=DM.out.cell 0;have z3:=(DM.out.put 0 (.int .i64 0)).cell 1;go_simp;(try dsimp only);refine hK.out _ _ ?_;clear hK K;refine aJ (by kernel_rfl) ?_ _;go_simp;go_wp2_with fail;go_meet;rw [qQ DM.out rfl,qQ DM.out rfl];exact⟨Ba,ma,qa,va.heap.size,rfl,rfl,U3.out,DM.out,KK.out⟩
  go_simp;(try dsimp only);refine hK.out _ _ ?_ (fun bh=>?_);exact HC.out _ ((aC (Below.refl W2.heap.size W2)).alloc (Nat.le_refl _) _);clear hK K;(try simp only [zp,za,z0,zs]);refine aF (i:=1) (o:=⟨some 18,_,_,_,_,_⟩) (by kernel_rfl) rfl (fun K hK=>?_);go_simp;go_at_call 7;refine(RM.out (W2.drew.alloc (.cells #[.int .i64 0,.int .i64 0] 32))).mono ?_;rintro e va ⟨ua,rfl,Rq,hda⟩;obtain⟨Da,ka,rfl,hka⟩:=aI Rq;have Cy:=qqh (show Below W2.heap.size W2 va from((aC (Below.refl W2.heap.size W2)).alloc (Nat.le_refl _) _).trans (hda.mono ((aC (Below.refl W2.heap.size W2)).alloc (Nat.le_refl _) _).size));have Wg:=qqh (Rd.ck Rq);have U2:=qqh (show ai va W2.heap.size 32 #[.int .i64 0,.int .i64 0] from(ai.new W2.drew 32 #[.int .i64 0,.int .i64 0]).below hda (ai.new W2.drew 32 #[.int .i64 0,.int .i64 0]).lt);clear Rq hda;(try dsimp only);refine hK.out _ _ ?_ (fun bh=>?_);exact HC.out _ Cy.out;clear hK K;(try simp only [zp,za,z0,zs]);refine aF (i:=2) (o:=⟨some 19,_,_,_,_,_⟩) (by kernel_rfl) rfl (fun K hK=>?_);go_simp;go_at_call 15;refine(dQ.out va Cy.out Da ka hka Wg.out).mono ?_;rintro e ga ⟨⟨Ba,ma,qa,rfl,pU⟩,hba⟩;have KK:=qqh (show Below W2.heap.size W2 ga from(Cy.out).trans (hba.mono (Cy.out).size));have U3:=qqh pU.of;have DM:=qqh (U2.out.below hba U2.out.lt);clear pU hba;(try dsimp only);refine hK.out _ _ ?_ (fun bh=>?_);exact HC.out _ KK.out;clear hK K;(try simp only [zp,za,z0,zs]);refine tq 3 16 ?_;(try simp only [zp,za,z0,zs]);refine tq 4 20 ?_;(try simp only [zp,za,z0,zs]);refine tq 5 21 ?_;(try simp only [zp,za,z0,zs]);refine tq 7 5 ?_;(try simp only [zp,za,z0,zs])
  refine aA (i:=8) (by kernel_rfl) rfl (by kernel_rfl) (fun K hK=>?_);have z0:=DM.out.frozen 0;have z1:=(DM.out.put 0 (.int .i64 0)).frozen 1;have z2:=DM.out.cell 0;have z3:=(DM.out.put 0 (.int .i64 0)).cell 1;go_simp;(try dsimp only);refine hK.out _ _ ?_;clear hK K;refine aJ (by kernel_rfl) ?_ _;go_simp;go_wp2_with fail;go_meet;rw [qQ DM.out rfl,qQ DM.out rfl];exact⟨Ba,ma,qa,W2.heap.size,rfl,rfl,U3.out,DM.out,KK.out⟩
 obtain⟨D,m,d,G,rfl,rfl,hrd,N5,hbc⟩:=hcut;have hm:m=4:=hrd.len.symm;subst hm;obtain⟨b,off,rfl,dV,Dt⟩:=hrd.2 (by decide);have q6:(convert 26 9 (.slice (some ⟨b,off,none⟩) 4 d)).run Tryz.prog wc=.ok (.string ⟨#[89,88,66,195,137]⟩) wc:=by
  rw [run_convert_runes (P:=Tryz.prog) wc 26 9 21 ⟨b,off,none⟩ 4 d [89,88,66,201] (by simp) Tryz.underlying26 Tryz.underlying21 Tryz.underlying9 ?_]
  ·rw [show([89,88,66,201]:List Int).take 4 = [89,88,66,201] from rfl,KR]
  intro j hj;rw [gT];refine Dt j _ ?_;rw [ez,List.getElem?_eq_getElem hj,List.getD_eq_getElem?_getD,List.getElem?_eq_getElem hj];rfl
 have Sv:=qqh (bw.out.trans (hbc.mono bw.out.size));have g0:=N5.cell 0;have g1:=(ai.below eT.out hbc eT.out.lt).cell 0;have g2:=(ai.below kB.out hbc kB.out.lt).cell 0;clear hrd N5 hbc Dt s0 s1 s2 HC dQ mB jl kB eT RM;go_wp2_with fail;go_ret;exact⟨rfl,Sv.out⟩
end Go.Proofs.YthgkedoildcbcaaGreatDoor
