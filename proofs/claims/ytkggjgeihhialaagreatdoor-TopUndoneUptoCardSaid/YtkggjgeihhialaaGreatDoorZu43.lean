/- RdFile + TopSingle + TopAlive -/
import Derived.Test.YtkggjgeihhialaaGreatDoorZu42
import Derived.Deep.CutRange
import Derived.Test.YtkggjgeihhialaaGreatDoorZu23
import Derived.Test.YtkggjgeihhialaaGreatDoorZu35
import Derived.Test.YtkggjgeihhialaaGreatDoorZu1
import Derived.Test.YtkggjgeihhialaaGreatDoorZu41
import Derived.Test.YtkggjgeihhialaaGreatDoorZu33
import Derived.Test.YtkggjgeihhialaaGreatDoorZu6
import Derived.Test.YtkggjgeihhialaaGreatDoorZu11
import Derived.Deep.DeepCutAuto
import Derived.Deep.CutBlock
set_option maxHeartbeats 12800000
set_option maxRecDepth 100000
namespace Go.Proofs.YtkggjgeihhialaaGreatDoor
open Go.RowKit
theorem Jd {L:List Int} {f i:Nat} {l:List aH} (h:pk L (az L i)<0):fZ L (f+1) i l=.ok l:=by rw [fZ,if_pos h]
theorem EF {L:List Int} {f i:Nat} {l:List aH} (h:¬ pk L (az L i)<0) (h2:l.length=200):fZ L (f+1) i l=.error (5,az L i):=by rw [fZ,if_neg h,if_pos h2]
theorem Ge {L:List Int} {f i:Nat} {l:List aH} {e:Int × Nat} (h:¬ pk L (az L i)<0) (h2:¬ l.length=200) (h3:iR L (az L i)=.error e):fZ L (f+1) i l=.error e:=by rw [fZ,if_neg h,if_neg h2,h3]
theorem FM {L:List Int} {f i j:Nat} {l:List aH} {p:aH} {e:Int × Nat} (h:¬ pk L (az L i)<0) (h2:¬ l.length=200) (h3:iR L (az L i)=.ok (p,j)) (h4:aT L (az L j) 59=.error e):fZ L (f+1) i l=.error e:=by rw [fZ,if_neg h,if_neg h2,h3];simp only;rw [h4]
theorem Fj {L:List Int} {f i j k:Nat} {l:List aH} {p:aH} (h:¬ pk L (az L i)<0) (h2:¬ l.length=200) (h3:iR L (az L i)=.ok (p,j)) (h4:aT L (az L j) 59=.ok k):fZ L (f+1) i l=fZ L f k (l++[p]):=by rw [fZ,if_neg h,if_neg h2,h3];simp only;rw [h4]
theorem ny {w:World} {X:Nat→Prop} {p:aH} {cs:List Value} (h:eC w X p cs):∃ v0 v1 v2 v3 v4 v5 v6 v7 v8 v9 v10 v11 v12 uU uG uY,cs = [v0,v1,v2,v3,v4,v5,v6,v7,v8,v9,v10,v11,v12,uU,uG,uY]:=by
 obtain⟨A',n',c',L1,a1,x1,L2,a2,x2,L3,a3,x3,R1,b1,y1,R2,b2,y2,R3,b3,y3,rfl⟩:=h.form;exact⟨_,_,_,_,_,_,_,_,_,_,_,_,_,_,_,_,rfl⟩
theorem xe (s:ByteArray) (w:World) (hs:s.size≤1099511627776) :
    Calls Tryz.prog 15 #[.string s] w (sE w (gW (dm s 0))):=by
  obtain⟨i0,Kl,u0,z1,z2⟩:=info_parts IN
  have hmf:∀ (fn:Fn) (first cap:Array Value) (w:World),(Instr.makeFunc fn first cap).run Tryz.prog w=.ok (.func fn first cap) w:=fun _ _ _ _=>rfl
  have HD:=qqh (fun(W:World)=>show Calls Tryz.prog 7 #[.string s] W fun e w'=>∃ v,e=.returned v∧pn w' W.heap.size v (dm s 0)∧Below W.heap.size W w' from pP s W hs)
  have HV:=qqh (show fU (dm s 0) from lM s)
  have hLs:(dm s 0).length≤s.size:=by
    unfold dm
    rw [List.length_map]
    have:=rH s s.size 0 (by omega)
    omega
  generalize dm s 0=L at *
  have dY:=qqh (show Below w.heap.size w ((w.alloc (.cells #[.slice none 0 0] 55)).alloc (.cells #[.int .i64 0,.int .i64 0] 38)) from((Below.refl _ _).alloc (Nat.le_refl _) _).alloc (by simp) _)
  have fC:=qqh (show aj ((w.alloc (.cells #[.slice none 0 0] 55)).alloc (.cells #[.int .i64 0,.int .i64 0] 38)) w.heap.size 55 #[.slice none 0 0] from(aj.new w _ _).alloc _)
  have rN:=qqh (show aj ((w.alloc (.cells #[.slice none 0 0] 55)).alloc (.cells #[.int .i64 0,.int .i64 0] 38)) (w.heap.size+1) 38 #[.int .i64 0,.int .i64 0] from by
    have:=aj.new (w.alloc (.cells #[.slice none 0 0] 55)) 38 #[.int .i64 0,.int .i64 0]
    simpa using this)
  have Vv:=qqh (show w.heap.size+2≤((w.alloc (.cells #[.slice none 0 0] 55)).alloc (.cells #[.int .i64 0,.int .i64 0] 38)).heap.size by simp)
  go_enter_defers Tryz.func15,Tryz.ntmps15
  go_wp2_with fail
  refine(HD.out _).mono ?_
  rintro e w1 ⟨v,rfl,ho,hb⟩
  have bJ:=qqh (dY.out.trans (hb.mono dY.out.size))
  have ic:=qqh (fC.out.below hb fC.out.lt)
  have fX:=qqh (rN.out.below hb rN.out.lt)
  have nQ:w.heap.size+2≤w1.heap.size:=Nat.le_trans Vv.out hb.size
  obtain⟨n,hn⟩:∃ n,L.length=n:=⟨_,rfl⟩
  unfold pn at ho
  rw [hn]at ho
  have aa0:n≤4611686018427387904:=by omega
  obtain⟨A,c,rfl,hnc⟩:=aI ho
  have hrow:cE (w1.alloc (.cells #[.slice A n c,.int .i64 0] 96)) (fun b=>w.heap.size+2≤b∧b<w1.heap.size) 1 A n (runeCells L) :=
    (cE.cP (X:=fun b=>w.heap.size+2≤b∧b<w1.heap.size) ho (fun b hb=>⟨Nat.le_trans Vv.out (aY ho hb).1,(aY ho hb).2⟩)).keep (aa.alloc _ (fun b hb _=>hb))
  have nk:=qqh (show uA w w1.heap.size A n c L (w1.alloc (.cells #[.slice A n c,.int .i64 0] 96)) 0 (.slice none 0 0) [] from
    ⟨⟨⟨_,aj.new _ _ _⟩,hrow.lift (fun b h=>by have:=h.2;omega),aa0,Nat.zero_le _,hnc⟩,hrow,ic.out.alloc _,fX.out.alloc _,gv.nil _ _ _,bJ.out.alloc bJ.out.size _,nQ⟩)
  have hC:w1.heap.size+1≤(w1.alloc (.cells #[.slice A n c,.int .i64 0] 96)).heap.size:=by simp
  have Ei:=qqh hn
  clear ho hb HD fC rN dY Vv hrow bJ ic fX
  go_upto_region 4 with fail
  generalize w1.alloc (.cells #[.slice A n c,.int .i64 0] 96)=w2 at *
  generalize w1.heap.size=C at *
  have c0:=nk.out.cur.blk.cell 0
  by_cases vL:16000<n
  · have mq:=qqh (tS (L:=L) (by rw [hn];exact vL))
    have Eh:=qqh (fun(W:World)=>bZ 4 0 W)
    clear hn
    go_wp2_with fail
    refine(Eh.out _).mono ?_
    rintro e w3 ⟨rfl,rfl⟩
    go_wp2_with fail
    refine gD _ (w.heap.size+1) w.heap.size w.heap.size 4 0 0 0 _ _ _ _ _ rfl rfl nk.out.flt nk.out.res (by omega) (by omega) (Nat.le_refl _) nk.out.below.size (by decide) (fun W2 aU=>?_)
    rw [mq.out]
    exact⟨⟨none,0,0,rfl,gI.nil _ _,Nat.le_refl _⟩,nk.out.below.trans aU⟩
  · have HMU:=qqh (show ¬ 16000<L.length from fun h=>vL (by rw [← hn];exact h))
    have hn5:n≤16000:=by omega
    have gS:=qqh (fun(W:World) (m:Nat) (h:ax W C A n c L m)=>cT W C A n c L m h)
    have qq:=qqh (fun(W:World) (m:Nat) (h:ax W C A n c L m)=>ju W C A n c L m h)
    have Hg:=qqh (fun(W:World) (m:Nat) (r:Int) (h:ax W C A n c L m) (hr:r ≠ -1)=>fk W C A n c L m r h hr)
    have qv:=qqh (fun(W:World) (m:Nat) (h:ax W C A n c L m)=>Ph W C A n c L m h HV.out (by omega))
    obtain⟨R0,VB⟩:∃ R0,fZ L (L.length+1) 0 [] = R0:=⟨_,rfl⟩
    have ki:=qqh (fun(x:Int) (p:Nat) (h:R0=.error (x,p))=>show gW L=([],(x,(p:Int))) from xq HMU.out (VB.trans h))
    have HXN:=qqh (fun(x:Int) (p:Nat) (h:R0=.error (x,p))=>show x≠0 from Hx L _ _ _ _ _ (VB.trans h))
    have Gp:=qqh (fun(l:List aH) (h:R0=.ok l)=>show gW L=(l,(0,0)) from zj HMU.out (VB.trans h))
    have fC:=qqh VB
    generalize gW L=RP at *
    have abf:decide ((16000:Int)<(n:Int))=false:=decide_eq_false (by omega)
    clear hn VB vL
    go_wp2_with fail
    refine(qq.out _ 0 nk.out.cur).mono ?_
    rintro e w3 ⟨rfl,lG,bL⟩
    have eD:=qqh (nk.out.step lG bL)
    have hC3:C+1≤w3.heap.size:=Nat.le_trans hC bL.1
    clear lG bL c0 abf hC
    go_wp2_with fail
    go_loopw [25] (fun _ wr=>∃ (f j:Nat) (acc:List aH) (v:Value),j≤n∧n+1≤f+j∧R0=fZ L f j acc∧acc.length≤200∧uA w C A n c L wr (az L j) v acc∧C+1≤wr.heap.size) (fun _ wr=>n - (match wr.cell? ⟨C,1,none⟩with | some (.int _ j)=>j.toNat | _=>0))
    case atStart=>exact⟨L.length+1,0,[],_,Nat.zero_le _,by have:=Ei.out;omega,fC.out.symm,Nat.zero_le _,eD.out,hC3⟩
    case round=>
      obtain⟨f0,j,acc,v,hj,hf,aV,Fm,hfl,hCr⟩:=hrel
      obtain⟨f,rfl⟩:∃ f,f0=f+1:=⟨f0 - 1,by omega⟩
      obtain⟨a,ha⟩:∃ a,az L j=a:=⟨_,rfl⟩
      have OZ:j≤a:=by rw [← ha];exact dH L j
      have dO:=qqh aV
      have HA:=qqh ha
      rw [ha]at hfl
      have nk:=qqh hfl
      have nS:=qqh (hfl.cur.blk.cell 1)
      have han:=hfl.cur.le
      obtain⟨Av,cv,rfl,qu⟩:=hfl.own.form
      clear aV ha hfl
      go_wp2_with fail
      refine(gS.out _ a nk.out.cur).mono ?_
      rintro e w4 ⟨rfl,lS,hb4⟩
      have gZ:=qqh (nk.out.step lS hb4)
      have ZL:C+1≤w4.heap.size:=Nat.le_trans hCr hb4.1
      clear lS hb4
      have r4:=gZ.out.res.cell 0
      by_cases hneg:pk L a<0
      · have hg:decide ((0:Int)≤pk L a)=false:=decide_eq_false (by omega)
        have mq:=qqh (Gp.out acc (dO.out.trans (Jd (by rw [HA.out];exact hneg))))
        clear hneg
        go_wp2_with fail
        have r5:=gZ.out.res.frozen 0
        have s4:=gZ.out.flt.cell 0
        have s5:=gZ.out.flt.cell 1
        have s6:=gZ.out.flt.frozen 0
        have s7:=gZ.out.flt.frozen 1
        go_region
        obtain⟨h9R,h9F,h9B⟩:=BD (m:=1) gZ.out.res gZ.out.flt (show w.heap.size≠w.heap.size+1 by omega)
        obtain⟨h9b,h9k⟩:=h9B w.heap.size (Nat.le_refl _) (by omega) gZ.out.below.size
        have hW:(((w4.setCell { block:=w.heap.size,off:=0 } (Value.slice Av acc.length cv)).setCell { block:=w.heap.size+1,off:=0 } (Value.int IntKind.i64 0)).setCell { block:=w.heap.size+1,off:=1 } (Value.int IntKind.i64 0)).drew=(((w4.drewN 1).setCell { block:=w.heap.size,off:=0 } (Value.slice Av acc.length cv)).setCell { block:=w.heap.size+1,off:=0 } (Value.int IntKind.i64 0)).setCell { block:=w.heap.size+1,off:=1 } (Value.int IntKind.i64 0):=rfl
        rw [hW]
        have hCC:=gZ.out.hC
        have i4:=qqh h9R
        have VZ:=qqh h9F
        have Nz:=qqh (gZ.out.below.trans h9b)
        have hpx:=gZ.out.own.done
        have HKK:=qqh (show aa w4 (fun b=>C+1≤b) _ (fun b=>w.heap.size≤b) from fun b hb hl=>let ⟨e,_,h2⟩:=h9k b ⟨by omega,by omega⟩ hl;⟨e,by omega,h2⟩)
        have yD:=qqh (hpx.keep HKK.out)
        clear h9R h9F h9B h9b h9k r4 r5 s4 s5 s6 s7 HKK hpx hW
        generalize (((w4.drewN 1).setCell { block:=w.heap.size,off:=0 } (Value.slice Av acc.length cv)).setCell { block:=w.heap.size+1,off:=0 } (Value.int IntKind.i64 0)).setCell { block:=w.heap.size+1,off:=1 } (Value.int IntKind.i64 0)=w9 at *
        go_wp2_with fail
        refine xZ _ (w.heap.size+1) w.heap.size 0 (.slice Av acc.length cv) _ _ w9 _ rfl rfl VZ.out i4.out ?_
        rw [mq.out]
        exact⟨⟨Av,_,cv,rfl,yD.out,qu⟩,Nz.out⟩
      · have hg:decide ((0:Int)≤pk L a)=true:=decide_eq_true (by omega)
        have HNG:=qqh hneg
        by_cases hm:acc.length=200
        · have HE:=qqh (dO.out.trans (EF (by rw [HA.out];exact hneg) hm))
          have wo:=qqh (show R0=.error (5,a) by rw [HE.out,HA.out])
          have mq:=qqh (ki.out 5 a wo.out)
          have y4:=gZ.out.cur.blk.cell 1
          rw [hm]at r4
          clear hneg
          go_wp2_with fail
          refine(bZ 5 a _).mono ?_
          rintro e w5 ⟨rfl,rfl⟩
          go_wp2_with fail
          refine gD _ (w.heap.size+1) w.heap.size w.heap.size 5 a 0 0 _ _ _ _ _ rfl rfl gZ.out.flt gZ.out.res (by omega) (by omega) (Nat.le_refl _) gZ.out.below.size (by decide) (fun W2 aU=>?_)
          rw [mq.out]
          exact⟨⟨none,0,0,rfl,gI.nil _ _,Nat.le_refl _⟩,gZ.out.below.trans aU⟩
        · have hm2:¬(acc.length:Int)=200:=by omega
          have qm:((acc.length:Int) == 200)=false:=by rw [beq_eq_false_iff_ne];exact hm2
          have HM:=qqh hm
          clear hm hm2
          generalize nL:acc.length=al at *
          cases hp:iR L a with
          | error e0=>
            obtain⟨x,p⟩:=e0
            have HE:=qqh (dO.out.trans (Ge (by rw [HA.out];exact hneg) (by rw [nL];exact HM.out) (by rw [HA.out];exact hp)))
            have mq:=qqh (ki.out x p HE.out)
            have hx:=HXN.out x p HE.out
            have Eg:=qqh (fun(W:World) (h:ax W C A n c L a)=>show Calls Tryz.prog 42 #[.pointer (some ⟨C,0,none⟩)] W (sK W C A n c L (.error (x,p))) by have:=qv.out W a h;rwa [hp]at this)
            clear hp hneg
            go_upto_region 11 with fail
            have iN:=qqh (gZ.out.on (aC (Below.refl w4.heap.size w4)))
            have hCC:=gZ.out.hC
            -- {err
            refine ay (S:=fun _=>True) [] (by kernel_rfl) trivial (fun _=>?_)
            refine fu (i:=0) (j:=1) (o:=⟨some 37,_,_,_,_,_⟩) (o2:=⟨some 38,_,_,_,_,_⟩) (by kernel_rfl) rfl rfl (fun K hK=>?_) (fun K hK=>?_)
            · go_simp
              try dsimp only
              refine hK.out _ _ trivial (fun _=>?_)
              clear hK K
              try simp only [zp,za,z0,zs]
              refine aD (i:=1) (o:=⟨some 38,_,_,_,_,_⟩) (by kernel_rfl) rfl (fun K hK=>?_)
              go_simp
              try dsimp only
              refine hK.out _ _ trivial (fun _=>?_)
              clear hK K
              try simp only [zp,za,z0,zs]
              refine aD (i:=2) (o:=⟨some 39,_,_,_,_,_⟩) (by kernel_rfl) rfl (fun K hK=>?_)
              go_simp
              go_at_call 42
              refine(Eg.out _ iN.out.cur).mono ?_
              rintro e w5 ⟨he,dJ⟩
              unfold aZ at he
              subst he
              have BJ:=(dJ.2.2.2.2 _ iN.out.res.lt (by omega)).trans iN.out.res
              have ML:=(dJ.2.2.2.2 _ iN.out.flt.lt (by omega)).trans iN.out.flt
              have El:=qqh BJ
              have j5:=qqh ML
              have dn:=qqh (iN.out.below.trans (dJ.to iN.out.below.size (by omega)))
              clear dJ BJ ML
              go_wp2_with fail
              refine gD _ (w.heap.size+1) w.heap.size w.heap.size x p 0 0 _ _ _ _ _ rfl rfl j5.out El.out (by omega) (by omega) (Nat.le_refl _) dn.out.size hx (fun W2 aU=>?_)
              rw [mq.out]
              exact⟨⟨none,0,0,rfl,gI.nil _ _,Nat.le_refl _⟩,dn.out.trans aU⟩
            · go_simp
              try dsimp only
              refine hK.out _ _ trivial (fun _=>?_)
              clear hK K
              try simp only [zp,za,z0,zs]
              refine fu (i:=0) (j:=2) (o:=⟨some 37,_,_,_,_,_⟩) (o2:=⟨some 39,_,_,_,_,_⟩) (by kernel_rfl) rfl rfl (fun K hK=>?_) (fun K hK=>?_)
              · go_simp
                try dsimp only
                refine hK.out _ _ trivial (fun _=>?_)
                clear hK K
                try simp only [zp,za,z0,zs]
                refine aD (i:=2) (o:=⟨some 39,_,_,_,_,_⟩) (by kernel_rfl) rfl (fun K hK=>?_)
                go_simp
                go_at_call 42
                refine(Eg.out _ iN.out.cur).mono ?_
                rintro e w5 ⟨he,dJ⟩
                unfold aZ at he
                subst he
                have BJ:=(dJ.2.2.2.2 _ iN.out.res.lt (by omega)).trans iN.out.res
                have ML:=(dJ.2.2.2.2 _ iN.out.flt.lt (by omega)).trans iN.out.flt
                have El:=qqh BJ
                have j5:=qqh ML
                have dn:=qqh (iN.out.below.trans (dJ.to iN.out.below.size (by omega)))
                clear dJ BJ ML
                go_wp2_with fail
                refine gD _ (w.heap.size+1) w.heap.size w.heap.size x p 0 0 _ _ _ _ _ rfl rfl j5.out El.out (by omega) (by omega) (Nat.le_refl _) dn.out.size hx (fun W2 aU=>?_)
                rw [mq.out]
                exact⟨⟨none,0,0,rfl,gI.nil _ _,Nat.le_refl _⟩,dn.out.trans aU⟩
              · go_simp
                go_at_call 42
                refine(Eg.out _ iN.out.cur).mono ?_
                rintro e w5 ⟨he,dJ⟩
                unfold aZ at he
                subst he
                have BJ:=(dJ.2.2.2.2 _ iN.out.res.lt (by omega)).trans iN.out.res
                have ML:=(dJ.2.2.2.2 _ iN.out.flt.lt (by omega)).trans iN.out.flt
                have El:=qqh BJ
                have j5:=qqh ML
                have dn:=qqh (iN.out.below.trans (dJ.to iN.out.below.size (by omega)))
                clear dJ BJ ML
                go_wp2_with fail
                refine gD _ (w.heap.size+1) w.heap.size w.heap.size x p 0 0 _ _ _ _ _ rfl rfl j5.out El.out (by omega) (by omega) (Nat.le_refl _) dn.out.size hx (fun W2 aU=>?_)
                rw [mq.out]
                exact⟨⟨none,0,0,rfl,gI.nil _ _,Nat.le_refl _⟩,dn.out.trans aU⟩
            -- err}
          | ok q=>
            obtain⟨p,j2⟩:=q
            have Eg:=qqh (fun(W:World) (h:ax W C A n c L a)=>show Calls Tryz.prog 42 #[.pointer (some ⟨C,0,none⟩)] W (sK W C A n c L (.ok (p,j2))) by have:=qv.out W a h;rwa [hp]at this)
            have HP:=qqh hp
            have iN:=qqh (gZ.out.on (aC (Below.refl w4.heap.size w4)))
            have hCC:=gZ.out.hC
            have HAP:=qqh (fun(b:Nat) (hb:w4.heap.size≤b)=>gZ.out.own.apart hb)
            have Wq:=qqh (show(acc++[p]).length=al+1 by rw [List.length_append,nL];rfl)
            clear hp hneg
            go_upto_region 11 with fail
            go_cut [] from 21 to 47 (fun wx=>∃ v':Value,uA w C A n c L wx j2 v' (acc++[p])∧C+1≤wx.heap.size)
            case first=>
              -- {ok
              refine ay (S:=fun _=>True) [] (by kernel_rfl) trivial (fun _=>?_)
              refine fu (i:=0) (j:=1) (o:=⟨some 37,_,_,_,_,_⟩) (o2:=⟨some 38,_,_,_,_,_⟩) (by kernel_rfl) rfl rfl (fun K hK=>?_) (fun K hK=>?_)
              · go_simp
                try dsimp only
                refine hK.out _ _ trivial (fun _=>?_)
                clear hK K
                try simp only [zp,za,z0,zs]
                refine aD (i:=1) (o:=⟨some 38,_,_,_,_,_⟩) (by kernel_rfl) rfl (fun K hK=>?_)
                go_simp
                try dsimp only
                refine hK.out _ _ trivial (fun _=>?_)
                clear hK K
                try simp only [zp,za,z0,zs]
                refine aD (i:=2) (o:=⟨some 39,_,_,_,_,_⟩) (by kernel_rfl) rfl (fun K hK=>?_)
                go_simp
                go_at_call 42
                refine(Eg.out _ iN.out.cur).mono ?_
                rintro e w5 ⟨⟨cs,rfl,hpx⟩,lH,dJ⟩
                obtain⟨v0,v1,v2,v3,v4,v5,v6,v7,v8,v9,v10,v11,v12,uU,uG,uY,rfl⟩:=ny hpx
                have j5:=qqh (iN.out.step lH dJ)
                have TN:C+1≤w5.heap.size:=Nat.le_trans ZL dJ.1
                have yD:=qqh (eC.keep (X':=vN (C+1) C (.slice Av al cv)) (show aa w5 (uI w4.drew C) w5 (vN (C+1) C (.slice Av al cv)) from fun b h hl=>⟨rfl,⟨by have:=h.1;have h0:w4.drew.heap.size=w4.heap.size:=rfl;omega,h.2,HAP.out b (Nat.le_of_lt h.1)⟩,hl⟩) hpx)
                have r5:=j5.out.res.cell 0
                clear hpx lH dJ
                try dsimp only
                refine hK.out _ _ trivial (fun _=>?_)
                clear hK K
                try simp only [zp,za,z0,zs]
                refine aD (i:=3) (o:=⟨some 40,_,_,_,_,_⟩) (by kernel_rfl) rfl (fun K hK=>?_)
                have fI:Below w5.heap.size w5 (w5.alloc (.cells #[v0,v1,v2,v3,v4,v5,v6,v7,v8,v9,v10,v11,v12,uU,uG,uY] 103)):=(Below.refl _ _).alloc (Nat.le_refl _) _
                have wW:=qqh (j5.out.on fI)
                have EN:=qqh (yD.out.keep (aa.any fI))
                obtain⟨ys,fW,ey⟩:=wW.out.own.push p EN.out
                rw [nL]at fW ey
                have yf:=qqh fW
                have ye:=qqh ey
                have CI:=qqh (Rd.new w5 103 16 1 [v0,v1,v2,v3,v4,v5,v6,v7,v8,v9,v10,v11,v12,uU,uG,uY] rfl)
                have qY:=qqh yD.out.one.2
                have hsz:C+1≤(w5.alloc (.cells #[v0,v1,v2,v3,v4,v5,v6,v7,v8,v9,v10,v11,v12,uU,uG,uY] 103)).heap.size:=Nat.le_trans TN fI.size
                have r8:(w5.alloc (.cells #[v0,v1,v2,v3,v4,v5,v6,v7,v8,v9,v10,v11,v12,uU,uG,uY] 103)).cell? ⟨w.heap.size,0,none⟩=some (.slice Av al cv):=wW.out.res.cell 0
                clear fI fW ey
                go_simp
                try dsimp only
                refine hK.out _ _ trivial (fun _=>?_)
                clear hK K
                try simp only [zp,za,z0,zs]
                refine aD (i:=4) (o:=⟨some 41,_,_,_,_,_⟩) (by kernel_rfl) rfl (fun K hK=>?_)
                refine cF _ rfl (.tmp 37) (.tmp 40) 55 rfl (C+1) 103 i0 _ 16 232 Tryz.underlying55 Kl u0 z1 z2 rfl (by decide) _ _ _ rfl yf.out (w5.heap.size+1) (some ⟨w5.heap.size,0,none⟩) 1 1 [v0,v1,v2,v3,v4,v5,v6,v7,v8,v9,v10,v11,v12,uU,uG,uY] rfl CI.out qY.out (by simp only [maxLen];omega) (by omega) hsz ?_
                intro v' w9 au
                obtain⟨A9,c9,Lu,_⟩:=(ye.out v' w9 au).form
                rw [Wq.out]at Lu
                subst Lu
                have nj:=qqh (wW.out.push yf.out au (ye.out _ w9 au) hsz)
                have bY:=au.below hsz yf.out
                have x9:w9.cell? ⟨w.heap.size,0,none⟩=some (.slice Av al cv):=(bY.cell (p:=⟨w.heap.size,0,none⟩) (show w.heap.size<C+1 by omega)).trans (wW.out.res.cell 0)
                have Lz:aj w9 w.heap.size 55 #[.slice Av al cv]:=(bY.block w.heap.size (by omega)).trans wW.out.res
                have y9:=Lz.frozen 0
                have N6:=bY.size
                clear au
                try dsimp only
                refine hK.out _ _ trivial (fun _=>?_)
                clear hK K
                try simp only [zp,za,z0,zs]
                refine aD (i:=5) (by kernel_rfl) rfl (fun K hK=>?_)
                go_simp
                try dsimp only
                refine hK.out _ _ trivial (fun _=>?_)
                clear hK K
                try simp only [Act.put,List.setIfInBounds_toArray,List.set_cons_zero,List.set_cons_succ]
                refine aJ (by kernel_rfl) ?_ _
                go_wp2_with fail
                go_meet
                exact⟨_,nj.out,by simpa using Nat.le_trans hsz N6⟩
              · go_simp
                try dsimp only
                refine hK.out _ _ trivial (fun _=>?_)
                clear hK K
                try simp only [Act.put,List.setIfInBounds_toArray,List.set_cons_zero,List.set_cons_succ]
                refine fu (i:=0) (j:=2) (o:=⟨some 37,_,_,_,_,_⟩) (o2:=⟨some 39,_,_,_,_,_⟩) (by kernel_rfl) rfl rfl (fun K hK=>?_) (fun K hK=>?_)
                · go_simp
                  try dsimp only
                  refine hK.out _ _ trivial (fun _=>?_)
                  clear hK K
                  try simp only [zp,za,z0,zs]
                  refine aD (i:=2) (o:=⟨some 39,_,_,_,_,_⟩) (by kernel_rfl) rfl (fun K hK=>?_)
                  go_simp
                  go_at_call 42
                  refine(Eg.out _ iN.out.cur).mono ?_
                  rintro e w5 ⟨⟨cs,rfl,hpx⟩,lH,dJ⟩
                  obtain⟨v0,v1,v2,v3,v4,v5,v6,v7,v8,v9,v10,v11,v12,uU,uG,uY,rfl⟩:=ny hpx
                  have j5:=qqh (iN.out.step lH dJ)
                  have TN:C+1≤w5.heap.size:=Nat.le_trans ZL dJ.1
                  have yD:=qqh (eC.keep (X':=vN (C+1) C (.slice Av al cv)) (show aa w5 (uI w4.drew C) w5 (vN (C+1) C (.slice Av al cv)) from fun b h hl=>⟨rfl,⟨by have:=h.1;have h0:w4.drew.heap.size=w4.heap.size:=rfl;omega,h.2,HAP.out b (Nat.le_of_lt h.1)⟩,hl⟩) hpx)
                  have r5:=j5.out.res.cell 0
                  clear hpx lH dJ
                  try dsimp only
                  refine hK.out _ _ trivial (fun _=>?_)
                  clear hK K
                  try simp only [zp,za,z0,zs]
                  refine aD (i:=3) (o:=⟨some 40,_,_,_,_,_⟩) (by kernel_rfl) rfl (fun K hK=>?_)
                  have fI:Below w5.heap.size w5 (w5.alloc (.cells #[v0,v1,v2,v3,v4,v5,v6,v7,v8,v9,v10,v11,v12,uU,uG,uY] 103)):=(Below.refl _ _).alloc (Nat.le_refl _) _
                  have wW:=qqh (j5.out.on fI)
                  have EN:=qqh (yD.out.keep (aa.any fI))
                  obtain⟨ys,fW,ey⟩:=wW.out.own.push p EN.out
                  rw [nL]at fW ey
                  have yf:=qqh fW
                  have ye:=qqh ey
                  have CI:=qqh (Rd.new w5 103 16 1 [v0,v1,v2,v3,v4,v5,v6,v7,v8,v9,v10,v11,v12,uU,uG,uY] rfl)
                  have qY:=qqh yD.out.one.2
                  have hsz:C+1≤(w5.alloc (.cells #[v0,v1,v2,v3,v4,v5,v6,v7,v8,v9,v10,v11,v12,uU,uG,uY] 103)).heap.size:=Nat.le_trans TN fI.size
                  have r8:(w5.alloc (.cells #[v0,v1,v2,v3,v4,v5,v6,v7,v8,v9,v10,v11,v12,uU,uG,uY] 103)).cell? ⟨w.heap.size,0,none⟩=some (.slice Av al cv):=wW.out.res.cell 0
                  clear fI fW ey
                  go_simp
                  try dsimp only
                  refine hK.out _ _ trivial (fun _=>?_)
                  clear hK K
                  try simp only [zp,za,z0,zs]
                  refine aD (i:=4) (o:=⟨some 41,_,_,_,_,_⟩) (by kernel_rfl) rfl (fun K hK=>?_)
                  refine cF _ rfl (.tmp 37) (.tmp 40) 55 rfl (C+1) 103 i0 _ 16 232 Tryz.underlying55 Kl u0 z1 z2 rfl (by decide) _ _ _ rfl yf.out (w5.heap.size+1) (some ⟨w5.heap.size,0,none⟩) 1 1 [v0,v1,v2,v3,v4,v5,v6,v7,v8,v9,v10,v11,v12,uU,uG,uY] rfl CI.out qY.out (by simp only [maxLen];omega) (by omega) hsz ?_
                  intro v' w9 au
                  obtain⟨A9,c9,Lu,_⟩:=(ye.out v' w9 au).form
                  rw [Wq.out]at Lu
                  subst Lu
                  have nj:=qqh (wW.out.push yf.out au (ye.out _ w9 au) hsz)
                  have bY:=au.below hsz yf.out
                  have x9:w9.cell? ⟨w.heap.size,0,none⟩=some (.slice Av al cv):=(bY.cell (p:=⟨w.heap.size,0,none⟩) (show w.heap.size<C+1 by omega)).trans (wW.out.res.cell 0)
                  have Lz:aj w9 w.heap.size 55 #[.slice Av al cv]:=(bY.block w.heap.size (by omega)).trans wW.out.res
                  have y9:=Lz.frozen 0
                  have N6:=bY.size
                  clear au
                  try dsimp only
                  refine hK.out _ _ trivial (fun _=>?_)
                  clear hK K
                  try simp only [zp,za,z0,zs]
                  refine aD (i:=5) (by kernel_rfl) rfl (fun K hK=>?_)
                  go_simp
                  try dsimp only
                  refine hK.out _ _ trivial (fun _=>?_)
                  clear hK K
                  try simp only [Act.put,List.setIfInBounds_toArray,List.set_cons_zero,List.set_cons_succ]
                  refine aJ (by kernel_rfl) ?_ _
                  go_wp2_with fail
                  go_meet
                  exact⟨_,nj.out,by simpa using Nat.le_trans hsz N6⟩
                · go_simp
                  go_at_call 42
                  refine(Eg.out _ iN.out.cur).mono ?_
                  rintro e w5 ⟨⟨cs,rfl,hpx⟩,lH,dJ⟩
                  obtain⟨v0,v1,v2,v3,v4,v5,v6,v7,v8,v9,v10,v11,v12,uU,uG,uY,rfl⟩:=ny hpx
                  have j5:=qqh (iN.out.step lH dJ)
                  have TN:C+1≤w5.heap.size:=Nat.le_trans ZL dJ.1
                  have yD:=qqh (eC.keep (X':=vN (C+1) C (.slice Av al cv)) (show aa w5 (uI w4.drew C) w5 (vN (C+1) C (.slice Av al cv)) from fun b h hl=>⟨rfl,⟨by have:=h.1;have h0:w4.drew.heap.size=w4.heap.size:=rfl;omega,h.2,HAP.out b (Nat.le_of_lt h.1)⟩,hl⟩) hpx)
                  have r5:=j5.out.res.cell 0
                  clear hpx lH dJ
                  try dsimp only
                  refine hK.out _ _ trivial (fun _=>?_)
                  clear hK K
                  try simp only [Act.put,List.setIfInBounds_toArray,List.set_cons_zero,List.set_cons_succ]
                  refine fu (i:=0) (j:=3) (o:=⟨some 37,_,_,_,_,_⟩) (o2:=⟨some 40,_,_,_,_,_⟩) (by kernel_rfl) rfl rfl (fun K hK=>?_) (fun K hK=>?_)
                  · go_simp
                    try dsimp only
                    refine hK.out _ _ trivial (fun _=>?_)
                    clear hK K
                    try simp only [zp,za,z0,zs]
                    refine aD (i:=3) (o:=⟨some 40,_,_,_,_,_⟩) (by kernel_rfl) rfl (fun K hK=>?_)
                    have fI:Below w5.heap.size w5 (w5.alloc (.cells #[v0,v1,v2,v3,v4,v5,v6,v7,v8,v9,v10,v11,v12,uU,uG,uY] 103)):=(Below.refl _ _).alloc (Nat.le_refl _) _
                    have wW:=qqh (j5.out.on fI)
                    have EN:=qqh (yD.out.keep (aa.any fI))
                    obtain⟨ys,fW,ey⟩:=wW.out.own.push p EN.out
                    rw [nL]at fW ey
                    have yf:=qqh fW
                    have ye:=qqh ey
                    have CI:=qqh (Rd.new w5 103 16 1 [v0,v1,v2,v3,v4,v5,v6,v7,v8,v9,v10,v11,v12,uU,uG,uY] rfl)
                    have qY:=qqh yD.out.one.2
                    have hsz:C+1≤(w5.alloc (.cells #[v0,v1,v2,v3,v4,v5,v6,v7,v8,v9,v10,v11,v12,uU,uG,uY] 103)).heap.size:=Nat.le_trans TN fI.size
                    have r8:(w5.alloc (.cells #[v0,v1,v2,v3,v4,v5,v6,v7,v8,v9,v10,v11,v12,uU,uG,uY] 103)).cell? ⟨w.heap.size,0,none⟩=some (.slice Av al cv):=wW.out.res.cell 0
                    clear fI fW ey
                    go_simp
                    try dsimp only
                    refine hK.out _ _ trivial (fun _=>?_)
                    clear hK K
                    try simp only [zp,za,z0,zs]
                    refine aD (i:=4) (o:=⟨some 41,_,_,_,_,_⟩) (by kernel_rfl) rfl (fun K hK=>?_)
                    refine cF _ rfl (.tmp 37) (.tmp 40) 55 rfl (C+1) 103 i0 _ 16 232 Tryz.underlying55 Kl u0 z1 z2 rfl (by decide) _ _ _ rfl yf.out (w5.heap.size+1) (some ⟨w5.heap.size,0,none⟩) 1 1 [v0,v1,v2,v3,v4,v5,v6,v7,v8,v9,v10,v11,v12,uU,uG,uY] rfl CI.out qY.out (by simp only [maxLen];omega) (by omega) hsz ?_
                    intro v' w9 au
                    obtain⟨A9,c9,Lu,_⟩:=(ye.out v' w9 au).form
                    rw [Wq.out]at Lu
                    subst Lu
                    have nj:=qqh (wW.out.push yf.out au (ye.out _ w9 au) hsz)
                    have bY:=au.below hsz yf.out
                    have x9:w9.cell? ⟨w.heap.size,0,none⟩=some (.slice Av al cv):=(bY.cell (p:=⟨w.heap.size,0,none⟩) (show w.heap.size<C+1 by omega)).trans (wW.out.res.cell 0)
                    have Lz:aj w9 w.heap.size 55 #[.slice Av al cv]:=(bY.block w.heap.size (by omega)).trans wW.out.res
                    have y9:=Lz.frozen 0
                    have N6:=bY.size
                    clear au
                    try dsimp only
                    refine hK.out _ _ trivial (fun _=>?_)
                    clear hK K
                    try simp only [zp,za,z0,zs]
                    refine aD (i:=5) (by kernel_rfl) rfl (fun K hK=>?_)
                    go_simp
                    try dsimp only
                    refine hK.out _ _ trivial (fun _=>?_)
                    clear hK K
                    try simp only [Act.put,List.setIfInBounds_toArray,List.set_cons_zero,List.set_cons_succ]
                    refine aJ (by kernel_rfl) ?_ _
                    go_wp2_with fail
                    go_meet
                    exact⟨_,nj.out,by simpa using Nat.le_trans hsz N6⟩
                  · have fI:Below w5.heap.size w5 (w5.alloc (.cells #[v0,v1,v2,v3,v4,v5,v6,v7,v8,v9,v10,v11,v12,uU,uG,uY] 103)):=(Below.refl _ _).alloc (Nat.le_refl _) _
                    have wW:=qqh (j5.out.on fI)
                    have EN:=qqh (yD.out.keep (aa.any fI))
                    obtain⟨ys,fW,ey⟩:=wW.out.own.push p EN.out
                    rw [nL]at fW ey
                    have yf:=qqh fW
                    have ye:=qqh ey
                    have CI:=qqh (Rd.new w5 103 16 1 [v0,v1,v2,v3,v4,v5,v6,v7,v8,v9,v10,v11,v12,uU,uG,uY] rfl)
                    have qY:=qqh yD.out.one.2
                    have hsz:C+1≤(w5.alloc (.cells #[v0,v1,v2,v3,v4,v5,v6,v7,v8,v9,v10,v11,v12,uU,uG,uY] 103)).heap.size:=Nat.le_trans TN fI.size
                    have r8:(w5.alloc (.cells #[v0,v1,v2,v3,v4,v5,v6,v7,v8,v9,v10,v11,v12,uU,uG,uY] 103)).cell? ⟨w.heap.size,0,none⟩=some (.slice Av al cv):=wW.out.res.cell 0
                    clear fI fW ey
                    go_simp
                    try dsimp only
                    refine hK.out _ _ trivial (fun _=>?_)
                    clear hK K
                    try simp only [Act.put,List.setIfInBounds_toArray,List.set_cons_zero,List.set_cons_succ]
                    refine aD (i:=0) (o:=⟨some 37,_,_,_,_,_⟩) (by kernel_rfl) rfl (fun K hK=>?_)
                    go_simp
                    try dsimp only
                    refine hK.out _ _ trivial (fun _=>?_)
                    clear hK K
                    try simp only [zp,za,z0,zs]
                    refine aD (i:=4) (o:=⟨some 41,_,_,_,_,_⟩) (by kernel_rfl) rfl (fun K hK=>?_)
                    refine cF _ rfl (.tmp 37) (.tmp 40) 55 rfl (C+1) 103 i0 _ 16 232 Tryz.underlying55 Kl u0 z1 z2 rfl (by decide) _ _ _ rfl yf.out (w5.heap.size+1) (some ⟨w5.heap.size,0,none⟩) 1 1 [v0,v1,v2,v3,v4,v5,v6,v7,v8,v9,v10,v11,v12,uU,uG,uY] rfl CI.out qY.out (by simp only [maxLen];omega) (by omega) hsz ?_
                    intro v' w9 au
                    obtain⟨A9,c9,Lu,_⟩:=(ye.out v' w9 au).form
                    rw [Wq.out]at Lu
                    subst Lu
                    have nj:=qqh (wW.out.push yf.out au (ye.out _ w9 au) hsz)
                    have bY:=au.below hsz yf.out
                    have x9:w9.cell? ⟨w.heap.size,0,none⟩=some (.slice Av al cv):=(bY.cell (p:=⟨w.heap.size,0,none⟩) (show w.heap.size<C+1 by omega)).trans (wW.out.res.cell 0)
                    have Lz:aj w9 w.heap.size 55 #[.slice Av al cv]:=(bY.block w.heap.size (by omega)).trans wW.out.res
                    have y9:=Lz.frozen 0
                    have N6:=bY.size
                    clear au
                    try dsimp only
                    refine hK.out _ _ trivial (fun _=>?_)
                    clear hK K
                    try simp only [zp,za,z0,zs]
                    refine aD (i:=5) (by kernel_rfl) rfl (fun K hK=>?_)
                    go_simp
                    try dsimp only
                    refine hK.out _ _ trivial (fun _=>?_)
                    clear hK K
                    try simp only [Act.put,List.setIfInBounds_toArray,List.set_cons_zero,List.set_cons_succ]
                    refine aJ (by kernel_rfl) ?_ _
                    go_wp2_with fail
                    go_meet
                    exact⟨_,nj.out,by simpa using Nat.le_trans hsz N6⟩
              -- ok}
            case rest=>
              obtain⟨v6,Wg,hC6⟩:=hcut
              have sB:=qqh Wg
              have ahN:al<200:=by have:=HM.out;omega
              clear Wg r4
              go_wp2_with fail
              refine(qq.out _ j2 sB.out.cur).mono ?_
              rintro e w7 ⟨rfl,qK,gG⟩
              have oQ:=qqh (sB.out.step qK gG)
              have hC7:C+1≤w7.heap.size:=Nat.le_trans hC6 gG.1
              clear qK gG
              obtain⟨b,hb⟩:∃ b,az L j2=b:=⟨_,rfl⟩
              have HB:=qqh hb
              rw [hb]at oQ
              clear hb
              have Ev:=qqh (Hg.out _ b 59 oQ.out.cur (by decide))
              cases hnd:aT L b 59 with
              | error e0=>
                obtain⟨x,q⟩:=e0
                have HE:=qqh (dO.out.trans (FM (by rw [HA.out];have:=HNG.out;omega) (by rw [nL];exact HM.out) (by rw [HA.out];exact HP.out) (by rw [HB.out];exact hnd)))
                have mq:=qqh (ki.out x q HE.out)
                have hx:=HXN.out x q HE.out
                rw [hnd]at Ev
                clear hnd
                go_wp2_with fail
                refine Ev.out.mono ?_
                rintro e w8 ⟨he,fI⟩
                unfold aZ at he
                subst he
                have hr8:=(fI.2.2.2.2 _ oQ.out.res.lt (by omega)).trans oQ.out.res
                have YR:=(fI.2.2.2.2 _ oQ.out.flt.lt (by omega)).trans oQ.out.flt
                have HR8:=qqh hr8
                have xF:=qqh YR
                have rV:=qqh (oQ.out.below.trans (fI.to oQ.out.below.size (by omega)))
                clear fI hr8 YR
                go_wp2_with fail
                refine gD _ (w.heap.size+1) w.heap.size w.heap.size x q 0 0 _ _ _ _ _ rfl rfl xF.out HR8.out (by omega) (by omega) (Nat.le_refl _) rV.out.size hx (fun W2 aU=>?_)
                rw [mq.out]
                exact⟨⟨none,0,0,rfl,gI.nil _ _,Nat.le_refl _⟩,rV.out.trans aU⟩
              | ok k=>
                have fD:=qqh (dO.out.trans (Fj (by rw [HA.out];have:=HNG.out;omega) (by rw [nL];exact HM.out) (by rw [HA.out];exact HP.out) (by rw [HB.out];exact hnd)))
                have HKB:=qqh (show k=b+1 from(fQ hnd).1)
                have sV:=qqh (Kw HV.out.ok (by rw [Ei.out];exact han) HP.out)
                rw [hnd]at Ev
                clear hnd
                go_wp2_with fail
                refine Ev.out.mono ?_
                rintro e w8 ⟨rfl,GI,fI⟩
                have xF:=qqh (oQ.out.step GI fI)
                have hC8:C+1≤w8.heap.size:=Nat.le_trans hC7 fI.1
                clear GI fI
                go_wp2_with fail
                refine(qq.out _ k xF.out.cur).mono ?_
                rintro e w9 ⟨rfl,FC,bY⟩
                have nj:=qqh (xF.out.step FC bY)
                have hC9:C+1≤w9.heap.size:=Nat.le_trans hC8 bY.1
                clear FC bY
                go_wp2_with fail
                have hge:a≤b:=by have h1:=sV.out.1;have h2:=dH L j2;rw [HB.out]at h2;omega
                have hkb:=HKB.out
                have hkn:=xF.out.cur.le
                refine⟨⟨f,k,acc++[p],v6,hkn,by omega,fD.out,by rw [List.length_append,nL];simp;omega,nj.out,hC9⟩,?_⟩
                have e1:w9.cell? ⟨C,1,none⟩=some (.int .i64 ((az L k:Nat):Int)):=nj.out.cur.blk.cell 1
                have e2:=nS.out
                have hle:=nj.out.cur.le
                have aft:=dH L k
                rw [e1,e2]
                simp only [Int.toNat_natCast,List.getElem?_toArray,List.getElem?_cons_succ,List.getElem?_cons_zero]
                omega
def jc (w:World) (A:Option Addr) (n:Nat):Prop:=∃ l:List ai,bt (aL w (fun _=>True)) w (fun _=>True) 7 A n l∧n≤maxLen
theorem jc.nil (w:World):jc w none 0:=⟨[],⟨[],rfl,rfl,by simp,by simp,cE.nil 7⟩,Nat.zero_le _⟩
theorem jc.below {w w':World} {A:Option Addr} {n:Nat} (hb:Below w.heap.size w w') (h:jc w A n):jc w' A n:=by
 obtain⟨l,h1,h2⟩:=h;exact⟨l,h1.keep (aa.any hb) (fun _ _=>aL.keep (aa.any hb)),h2⟩
def pI (w:World) (e:Ending) (w':World):Prop:=(∃ A n c B m d ok,e=.returned (.tuple #[.slice A n c,.slice B m d,.bool ok])∧(ok=true→jc w' A n∧jc w' B m))∧Below w.heap.size w w'
theorem ig (w w':World) (hb:Below w.heap.size w w'):pI w (.returned (.tuple #[.slice none 0 0,.slice none 0 0,.bool false])) w' :=
  ⟨⟨none,0,0,none,0,0,false,rfl,fun h=>by cases h⟩,hb⟩
theorem pX {w:World} {X:Nat→Prop} {s:bV} {cs:List Value} (h:gA w X s cs):∃ A1 n1 c1 A2 n2 c2,cs = [.bool s.only?,.slice A1 n1 c1,.slice A2 n2 c2]∧iH w X s A1 n1 A2 n2:=by
 obtain⟨u,v,rfl,⟨A1,n1,c1,rfl,q1,q2⟩,⟨A2,n2,c2,rfl,q3,q4⟩⟩:=h;exact⟨A1,n1,c1,A2,n2,c2,rfl,q1,q3,q2,q4⟩
theorem sr {w:World} {X:Nat→Prop} {s:bV} {A1 A2:Option Addr} {n1 c1 n2 c2:Nat} (h:gA w X s [.bool s.only?,.slice A1 n1 c1,.slice A2 n2 c2]):iH w X s A1 n1 A2 n2:=by
 obtain⟨_,_,he,⟨_,_,_,rfl,q1,q2⟩,⟨_,_,_,rfl,q3,q4⟩⟩:=h;injection he with _ he;injection he with e1 he;injection he with e2 _;cases e1;cases e2;exact⟨q1,q3,q2,q4⟩
theorem rO {B:Nat} {a w:World} (h:Below B a w) (n:Nat):Below B a (w.drewN n):=h.trans ⟨rfl,rfl,rfl,Nat.le_refl _,fun _ _=>rfl⟩
theorem aj.ri {w:World} {g b i:Nat} {t:TypeId} {cs:Array Value} (h:aj w g t cs) (hne:g≠b) (u:Value):aj (w.setCell ⟨b,i,none⟩ u) g t cs :=
  (Below.heap_setCell _ _ _ _ hne).trans h
theorem FK (s:ByteArray) (hs:s.size≤1099511627776) (w:World) :
    Calls Tryz.prog 11 #[.string s] w (pI w):=by
 have kT:=qqh (xe s w hs);unfold sE at kT;have La:=(Ak (fU.ok (lM s))).2;go_enter Tryz.func11,Tryz.ntmps11;go_wp2_with fail;refine kT.out.mono ?_;rintro e w1 ⟨⟨A,n,c,rfl,hx,hnc⟩,aR⟩;obtain⟨L,f1,f2,hP⟩:∃ L f1 f2,gW (dm s 0)=(L,(f1,f2)):=⟨_,_,_,rfl⟩;rw [hP]at hx La ⊢;dsimp only at hx La ⊢;have hba:=(Below.refl w1.heap.size w1).alloc (Nat.le_refl _) (.cells #[.int .i64 f1,.int .i64 f2] 38);have bJ:=qqh (aR.trans (hba.mono aR.size));have fX:=qqh (aj.new w1 38 #[.int .i64 f1,.int .i64 f2]);have hn:n≤maxLen:=(by have:=hx.len;simp only [maxLen];omega);have sN:=qqh (BM.weak (eW hba (Nat.le_refl _)) hx.rd);have iY:=qqh aR.size;clear aR hx hP hba La kT hnc;go_upto_region 2 with fail;have d0:=fX.out.cell 0;by_cases hz:f1=0
 ·subst hz;have ZD:=qqh (zI w1.heap.size A n c L _ hn (by simp) sN.out);unfold r9 at ZD;go_wp2_with fail;refine ZD.out.mono ?_;rintro e w2 ⟨⟨cs,_,rfl,hcs⟩,aU⟩;obtain⟨sc,g1,g2,hR⟩:∃ sc g1 g2,cN false L=(sc,(g1,g2)):=⟨_,_,_,rfl⟩;rw [hR]at hcs ⊢;dsimp only at hcs ⊢;obtain⟨A1,n1,c1,A2,n2,c2,rfl,_⟩:=pX hcs;have TV:=(fX.out.below aU fX.out.lt).alloc (.cells #[.bool sc.only?,.slice A1 n1 c1,.slice A2 n2 c2] 27);have hS2:=aj.new w2 27 #[.bool sc.only?,.slice A1 n1 c1,.slice A2 n2 c2];have xU:=(fX.out.below aU fX.out.lt).lt;have nL:=(Below.refl w2.heap.size w2).alloc (Nat.le_refl _) (.cells #[.bool sc.only?,.slice A1 n1 c1,.slice A2 n2 c2] 27);have hba:=((nL.mono (Nat.le_of_lt xU)).setCell (p:=⟨w1.heap.size,0,none⟩) (Nat.le_refl _) (.int .i64 g1)).setCell (p:=⟨w1.heap.size,1,none⟩) (Nat.le_refl _) (.int .i64 g2);have vu:=qqh (show Below w1.heap.size (w1.alloc (.cells #[.int .i64 0,.int .i64 f2] 38)) _ from(aU.mono (by simp)).trans hba);have bD:=qqh (bJ.out.trans ((aU.trans (nL.mono aU.size)).mono bJ.out.size) |>.setCell (p:=⟨w1.heap.size,0,none⟩) (iY.out) (.int .i64 g1) |>.setCell (p:=⟨w1.heap.size,1,none⟩) (iY.out) (.int .i64 g2));have DR:=qqh (BM.weak (eW vu.out (Nat.le_refl _)) sN.out);have jx:=qqh (((hS2.ri (i:=0) (Nat.ne_of_gt xU) (.int .i64 g1))).ri (i:=1) (Nat.ne_of_gt xU) (.int .i64 g2));have eZ:=qqh ((TV.put 0 (.int .i64 g1)).put 1 (.int .i64 g2));have hkp:aa w2 (Fr w1.heap.size (w1.alloc (.cells #[.int .i64 0,.int .i64 f2] 38)).heap.size) (((w2.alloc (.cells #[.bool sc.only?,.slice A1 n1 c1,.slice A2 n2 c2] 27)).setCell ⟨w1.heap.size,0,none⟩ (.int .i64 g1)).setCell ⟨w1.heap.size,1,none⟩ (.int .i64 g2)) (fun _=>True):=by
   have hne:∀ b,Fr w1.heap.size (w1.alloc (.cells #[.int .i64 0,.int .i64 f2] 38)).heap.size b→b≠w1.heap.size:=by
    intro b hb;rcases hb with hb | hb;omega;simp at hb;omega
   exact((aa.below (X':=fun b=>b≠w1.heap.size) nL (fun b h _=>hne b h)).trans (aa.setCell (X':=fun b=>b≠w1.heap.size) _ (fun b h=>h) (fun b h _=>h))).trans (aa.setCell _ (fun b h=>h) (fun b h _=>trivial))
  have mT:=qqh (hcs.keep hkp);have f0:=TV.frozen 0;have k0:=TV.cell 0;have k1':=(TV.put 0 (.int .i64 g1)).frozen 1;have k1:=(TV.put 0 (.int .i64 g1)).cell 1;clear aU hcs hS2 nL hba hkp TV sN bJ ZD xU d0;go_upto_region 5 with fail;clear f0 k0 k1' k1;generalize ((w2.alloc (.cells #[.bool sc.only?,.slice A1 n1 c1,.slice A2 n2 c2] 27)).setCell ⟨w1.heap.size,0,none⟩ (.int .i64 g1)).setCell ⟨w1.heap.size,1,none⟩ (.int .i64 g2)=W2 at *;have Cn:=qqh (MG w1.heap.size A n c L W2 hn (Nat.le_of_lt eZ.out.lt) DR.out);unfold r9 at Cn;go_wp2_with fail;refine Cn.out.mono ?_;rintro e w3 ⟨⟨ds,_,rfl,hds⟩,bL⟩;obtain⟨sd,h1,h2,QH⟩:∃ sd h1 h2,cN true L=(sd,(h1,h2)):=⟨_,_,_,rfl⟩;rw [QH]at hds ⊢;dsimp only at hds ⊢;obtain⟨B1,m1,d1,B2,m2,d2,rfl,_⟩:=pX hds;have nL:=((Below.refl w3.heap.size w3).alloc (Nat.le_refl _) (.cells #[.bool sd.only?,.slice B1 m1 d1,.slice B2 m2 d2] 27)).alloc (by simp) (.cells #[.int .i64 h1,.int .i64 h2] 38);have cH:=bL.trans (nL.mono bL.size);have bG:=qqh (bD.out.trans (cH.mono bD.out.size));have eD:=qqh (eZ.out.below cH eZ.out.lt);have CW:=qqh (jx.out.below cH jx.out.lt);have oK:=qqh (mT.out.keep (aa.any cH));have Tf:=qqh ((aj.new w3 27 #[.bool sd.only?,.slice B1 m1 d1,.slice B2 m2 d2]).alloc (.cells #[.int .i64 h1,.int .i64 h2] 38))
  have L4:=qqh (show aj ((w3.alloc (.cells #[.bool sd.only?,.slice B1 m1 d1,.slice B2 m2 d2] 27)).alloc (.cells #[.int .i64 h1,.int .i64 h2] 38)) (w3.heap.size+1) 38 #[.int .i64 h1,.int .i64 h2] by simpa using aj.new (w3.alloc (.cells #[.bool sd.only?,.slice B1 m1 d1,.slice B2 m2 d2] 27)) 38 #[.int .i64 h1,.int .i64 h2]);have YJ:=qqh (hds.keep (aa.below nL (X':=fun _=>True) (fun _ _ _=>trivial)));clear bL hds nL cH bD eZ jx mT DR Cn;go_upto_region 6 with fail;generalize (w3.alloc (.cells #[.bool sd.only?,.slice B1 m1 d1,.slice B2 m2 d2] 27)).alloc (.cells #[.int .i64 h1,.int .i64 h2] 38)=W3 at *;have q0:W3.cell? ⟨w1.heap.size,0,none⟩=some (.int .i64 g1):=eD.out.cell 0;have q1:W3.cell? ⟨w2.heap.size,0,none⟩=some (.bool sc.only?):=CW.out.cell 0;have q2:W3.cell? ⟨w2.heap.size,2,none⟩=some (.slice A2 n2 c2):=CW.out.cell 2;have q3:W3.cell? ⟨w3.heap.size,2,none⟩=some (.slice B2 m2 d2):=Tf.out.cell 2;have q4:W3.cell? ⟨w3.heap.size+1,0,none⟩=some (.int .i64 h1):=L4.out.cell 0;have kf:=sr oK.out;have bh:=sr YJ.out;clear oK YJ eD CW Tf L4;have NQ:=kf.pas.len;have agT:=bh.pas.len;by_cases hg:g1=0
  ·subst hg;by_cases hh:h1=0
   ·subst hh;obtain⟨so,Qt⟩:∃ so,sc.only? = so:=⟨_,rfl⟩;rw [Qt]at q1;cases so
    ·by_cases hn2:n2=1
     ·subst hn2;by_cases hm2:1<m2
      ·have hmt:decide ((1:Int)<(m2:Int))=true:=decide_eq_true (by omega);go_wp2_with fail;go_ret3;exact ig _ _ bG.out
      have hmt:decide ((1:Int)<(m2:Int))=false:=decide_eq_false (by omega);obtain⟨p,hp⟩:∃ p,sc.passes[0]? = some p:=⟨_,List.getElem?_eq_getElem (by omega)⟩;obtain⟨b,off,A',n',c',rfl,_,eF,hc0,hc1,hru,hn'⟩:=qZ kf.pas hp;rw [Nat.zero_mul,Nat.add_zero]at hc0 hc1;have Yt:=qqh (show jc W3 A' n' from⟨p.rules,hru,hn'⟩);by_cases hm0:m2=0
      ·subst hm0;go_wp2_with fail
       all_goals
         go_ret3
         first
         | exact ig _ _ bG.out
         | exact⟨⟨A',n',c',none,0,0,true,rfl,fun _=>⟨Yt.out,jc.nil _⟩⟩,bG.out⟩
      obtain rfl:m2=1:=(by omega);obtain⟨p2,hp2⟩:∃ p,sd.passes[0]? = some p:=⟨_,List.getElem?_eq_getElem (by omega)⟩;obtain⟨b2,off2,Xs,Tn,NG,rfl,_,Zj,RS,rL,abA,aa'⟩:=qZ bh.pas hp2;rw [Nat.zero_mul,Nat.add_zero]at RS rL;have ZU:=qqh (show jc W3 Xs Tn from⟨p2.rules,abA,aa'⟩);go_wp2_with fail
      ·go_ret3;exact ig _ _ bG.out
      go_quiet (fail);have Xm:=rO bG.out nq;have bY:=rO (Below.refl W3.heap.size W3) nq;have h1:=Yt.out.below bY;have h2:=ZU.out.below bY;go_wp2_with fail;go_ret3;exact⟨⟨A',n',c',Xs,Tn,NG,_,rfl,fun _=>⟨h1,h2⟩⟩,Xm⟩
     have Su:((n2:Int) == 1)=false:=(by rw [beq_eq_false_iff_ne];omega);go_wp2_with fail;go_ret3;exact ig _ _ bG.out
    go_wp2_with fail;go_ret3;exact ig _ _ bG.out
   go_wp2_with fail;go_ret3;exact ig _ _ bG.out
  go_wp2_with fail;go_ret3;exact ig _ _ bG.out
 go_wp2_with fail;go_ret3;exact ig _ _ bJ.out
def Ff:ByteArray:=⟨#[36,118,32,61,32,91,97,45,99,93,59,10,36,118,32,125,32,120,32,62,32,121,32,59,10,58,58,32,117,112,112,101,114,32,59,10]⟩
def Nc:ByteArray:=⟨#[97,120,98,195,169]⟩
noncomputable def xD:List aH:=(gW (dm Ff 0)).1
noncomputable def gV:bV:=(cN false xD).1
theorem ME:(gW (dm Ff 0)).2=(0,0):=by kernel_rfl
theorem Ov:xD.length=3:=by kernel_rfl
theorem Kv:(cN false xD).2=(0,0):=by kernel_rfl
theorem Pq:dm Nc 0 = [97,120,98,233]:=by kernel_rfl
theorem Mi:P9 gV [97,120,98,233] =([89,88,66,201],(0,0)):=by kernel_rfl
theorem Lk:runesBytes [89,88,66,201] =⟨#[89,88,66,195,137]⟩:=by decide +kernel
theorem Iw (w:World) :
    Calls Tryz.prog 5 #[] w fun e w'=>e=.returned (.bool true)∧Below w.heap.size w w':=by
 have kT:=qqh (show Calls Tryz.prog 15 #[.string ⟨#[36,118,32,61,32,91,97,45,99,93,59,10,36,118,32,125,32,120,32,62,32,121,32,59,10,58,58,32,117,112,112,101,114,32,59,10]⟩] w fun e w'=>(∃ A n c,e=.returned (.tuple #[.slice A n c,.agg #[.int .i64 0,.int .i64 0]])∧gI w' (fun b=>w.heap.size≤b) A n xD∧n≤c)∧Below w.heap.size w w' by
  have h:=xe Ff w (by decide);unfold sE at h;rw [ME]at h;exact h)
 have SI:=qqh (fun(W:World)=>show Calls Tryz.prog 7 #[.string ⟨#[97,120,98,195,169]⟩] W fun e w'=>∃ v,e=.returned v∧pn w' W.heap.size v [97,120,98,233]∧Below W.heap.size W w' by
  have h:=pP Nc W (by decide);unfold Bb at h;rw [Pq]at h;exact h)
 go_enter Tryz.func5,Tryz.ntmps5;go_wp2_with fail;refine kT.out.mono ?_;rintro e w1 ⟨⟨A,n,c,rfl,hx,_⟩,aR⟩;have hba:=(Below.refl w1.heap.size w1).alloc (Nat.le_refl _) (.cells #[.int .i64 0,.int .i64 0] 38);have bJ:=qqh (aR.trans (hba.mono aR.size));have fX:=qqh (aj.new w1 38 #[.int .i64 0,.int .i64 0]);have HN:=qqh (show n≤maxLen by have:=hx.len;rw [Ov]at this;simp only [maxLen];omega);have sN:=qqh (BM.weak (eW hba hba.size) hx.rd);clear aR hx hba kT;go_wp2_with fail;refine(zI _ A n c xD _ HN.out (Nat.le_refl _) sN.out).mono ?_;rintro e w2 ⟨⟨cs,_,he,hcs⟩,aU⟩;rw [Kv]at he;subst he;change gA _ _ gV _ at hcs;obtain⟨A1,n1,c1,A2,n2,c2,rfl,_⟩:=pX hcs;have hbc:=((Below.refl w2.heap.size w2).alloc (Nat.le_refl _) (.cells #[.bool gV.only?,.slice A1 n1 c1,.slice A2 n2 c2] 27)).alloc (by simp) (.cells #[.int .i64 0,.int .i64 0] 38);have bD:=qqh ((bJ.out.trans (aU.mono bJ.out.size)).trans (hbc.mono (bJ.out.trans (aU.mono bJ.out.size)).size));have jx:=qqh ((aj.new w2 27 #[.bool gV.only?,.slice A1 n1 c1,.slice A2 n2 c2]).alloc (.cells #[.int .i64 0,.int .i64 0] 38));have lT:=qqh (show aj ((w2.alloc (.cells #[.bool gV.only?,.slice A1 n1 c1,.slice A2 n2 c2] 27)).alloc (.cells #[.int .i64 0,.int .i64 0] 38)) (w2.heap.size+1) 38 #[.int .i64 0,.int .i64 0] by simpa using aj.new (w2.alloc (.cells #[.bool gV.only?,.slice A1 n1 c1,.slice A2 n2 c2] 27)) 38 #[.int .i64 0,.int .i64 0])
 have eZ:=qqh (aj.below (aj.below fX.out aU fX.out.lt) hbc (aj.below fX.out aU fX.out.lt).lt);have mT:=qqh (sr (hcs.keep (aa.below hbc (X':=fun _=>True) (fun _ _ _=>trivial))));clear aU hcs hbc bJ fX sN;go_upto_region 3 with fail;generalize (w2.alloc (.cells #[.bool gV.only?,.slice A1 n1 c1,.slice A2 n2 c2] 27)).alloc (.cells #[.int .i64 0,.int .i64 0] 38)=W2 at *;have s0:W2.cell? ⟨w2.heap.size,0,none⟩=some (.bool gV.only?):=jx.out.cell 0;have s1:W2.cell? ⟨w2.heap.size,1,none⟩=some (.slice A1 n1 c1):=jx.out.cell 1;have s2:W2.cell? ⟨w2.heap.size,2,none⟩=some (.slice A2 n2 c2):=jx.out.cell 2
 have HC:=qqh (fun(W:World) (hb:Below W2.heap.size W2 W)=>show W.cell? ⟨w2.heap.size,0,none⟩=some (.bool gV.only?)∧W.cell? ⟨w2.heap.size,1,none⟩=some (.slice A1 n1 c1)∧W.cell? ⟨w2.heap.size,2,none⟩=some (.slice A2 n2 c2) from
   ⟨(aj.below jx.out hb jx.out.lt).cell 0,(aj.below jx.out hb jx.out.lt).cell 1,(aj.below jx.out hb jx.out.lt).cell 2⟩)
 have dO:=qqh (fun(W:World) (hb:Below W2.heap.size W2 W) (At:Option Addr) (ct:Nat) (hct:4≤ct) (ht:lX W W.heap.size At 4 [97,120,98,233])=>show Calls Tryz.prog 8 #[.agg #[.bool gV.only?,.slice A1 n1 c1,.slice A2 n2 c2],.slice At 4 ct] W fun e w'=>Fl W.heap.size w' ([89,88,66,201],(0,0)) e∧Below W.heap.size W w' by
  have h:=KI (fun _=>True) gV [97,120,98,233] A1 A2 At n1 c1 n2 c2 4 ct W (mT.out.keep (aa.below hb (fun _ _ _=>trivial))) hct (by decide) ht;rwa [Mi]at h)
 unfold Fl at dO;go_cut [5,6] (fun XD Vb wx=>∃ (A:Option Addr) (n c G:Nat),XD=.slice A n c∧Vb=.pointer (some ⟨G,0,none⟩)∧lX wx wx.heap.size A n [89,88,66,201]∧aj wx G 38 #[.int .i64 0,.int .i64 0]∧Below W2.heap.size W2 wx);case first=>
  refine ay (S:=fun w'=>w'.cell? ⟨w2.heap.size,0,none⟩=some (.bool gV.only?)∧w'.cell? ⟨w2.heap.size,1,none⟩=some (.slice A1 n1 c1)∧w'.cell? ⟨w2.heap.size,2,none⟩=some (.slice A2 n2 c2)) [0] (by kernel_rfl) ⟨s0,s1,s2⟩ (fun bg=>?_);apply tt 0 17 rfl (by kernel_rfl) (fun _ _ _ h=>h) (by rfl) (by assumption)
  ·intro wq mI;(try dsimp only at mI);go_simp;(try with_reducible rfl)
  (try simp only [zp,za,z0,zs]);refine fu (i:=1) (j:=6) (o:=⟨some 18,_,_,_,_,_⟩) (o2:=⟨some 6,_,_,_,_,_⟩) (by kernel_rfl) rfl rfl (fun K hK=>?_) (fun K hK=>?_)
  ·go_simp;go_at_call 7;refine(SI.out W2.drew).mono ?_;rintro e va ⟨ua,rfl,Ss,hda⟩;obtain⟨Da,ka,rfl,hka⟩:=aI Ss;have Dx:=qqh (show Below W2.heap.size W2 va from(aC (Below.refl W2.heap.size W2)).trans (hda.mono (aC (Below.refl W2.heap.size W2)).size));have YX:=qqh (Rd.cP Ss);clear Ss hda;(try dsimp only);refine hK.out _ _ ?_ (fun bg=>?_);exact HC.out _ Dx.out;clear hK K;(try simp only [zp,za,z0,zs]);refine fu (i:=2) (j:=6) (o:=⟨some 19,_,_,_,_,_⟩) (o2:=⟨some 6,_,_,_,_,_⟩) (by kernel_rfl) rfl rfl (fun K hK=>?_) (fun K hK=>?_)
   ·go_simp;go_at_call 8;refine(dO.out va Dx.out Da ka hka YX.out).mono ?_;rintro e ga ⟨⟨Ba,ma,qa,rfl,qt⟩,hba⟩;have L6:=qqh (show Below W2.heap.size W2 ga from(Dx.out).trans (hba.mono (Dx.out).size));have Wt:=qqh qt.of;clear qt hba;(try dsimp only);refine hK.out _ _ ?_ (fun bg=>?_);exact HC.out _ L6.out;clear hK K;(try simp only [zp,za,z0,zs]);apply tp 3 16 rfl (by kernel_rfl) (fun _ _ _ h=>h) (by rfl)
    ·intro wq _;go_simp;(try with_reducible rfl)
    (try simp only [zp,za,z0,zs]);apply tp 4 20 rfl (by kernel_rfl) (fun _ _ _ h=>h) (by rfl)
    ·intro wq _;go_simp;(try with_reducible rfl)
    (try simp only [zp,za,z0,zs]);apply tp 5 21 rfl (by kernel_rfl) (fun _ _ _ h=>h) (by rfl)
    ·intro wq _;go_simp;(try with_reducible rfl)
    (try simp only [zp,za,z0,zs]);refine aD (i:=6) (o:=⟨some 6,_,_,_,_,_⟩) (by kernel_rfl) rfl (fun K hK=>?_);go_simp;(try dsimp only);refine hK.out _ _ ?_ (fun bg=>?_);exact HC.out _ (L6.out.alloc L6.out.size _);clear hK K;(try simp only [zp,za,z0,zs]);apply tp 7 5 rfl (by kernel_rfl) (fun _ _ _ h=>h) (by rfl)
    ·intro wq _;go_simp;(try with_reducible rfl)
    (try simp only [zp,za,z0,zs]);refine aA (i:=8) (by kernel_rfl) rfl (by kernel_rfl) (fun K hK=>?_);go_simp;(try dsimp only);refine hK.out _ _ ?_;clear hK K;refine aJ (by kernel_rfl) ?_ _;go_simp;go_wp2_with fail;go_meet;exact⟨Ba,ma,qa,ga.heap.size,rfl,rfl,Wt.out.below ((Below.refl _ _).alloc (Nat.le_refl _) _) |>.more (by simp),aj.new _ _ _,L6.out.alloc L6.out.size _⟩
   go_simp;(try dsimp only);refine hK.out _ _ ?_ (fun bg=>?_);exact HC.out _ (Dx.out.alloc Dx.out.size _);clear hK K;(try simp only [zp,za,z0,zs]);refine aD (i:=2) (o:=⟨some 19,_,_,_,_,_⟩) (by kernel_rfl) rfl (fun K hK=>?_);have VT:=qqh (aj.new va 38 #[.int .i64 0,.int .i64 0]);go_simp;go_at_call 8;refine(dO.out (va.alloc (.cells #[.int .i64 0,.int .i64 0] 38)) (Dx.out.alloc Dx.out.size _) Da ka hka (YX.out.below ((Below.refl _ _).alloc (Nat.le_refl _) _) |>.more (by simp))).mono ?_;rintro e ga ⟨⟨Ba,ma,qa,rfl,qt⟩,hba⟩;have L6:=qqh (show Below W2.heap.size W2 ga from((Dx.out.alloc Dx.out.size _)).trans (hba.mono ((Dx.out.alloc Dx.out.size _)).size));have Wt:=qqh qt.of;have Gf:=qqh (VT.out.below hba VT.out.lt);clear qt hba;(try dsimp only);refine hK.out _ _ ?_ (fun bg=>?_);exact HC.out _ L6.out;clear hK K;(try simp only [zp,za,z0,zs]);apply tp 3 16 rfl (by kernel_rfl) (fun _ _ _ h=>h) (by rfl)
   ·intro wq _;go_simp;(try with_reducible rfl)
   (try simp only [zp,za,z0,zs]);apply tp 4 20 rfl (by kernel_rfl) (fun _ _ _ h=>h) (by rfl)
   ·intro wq _;go_simp;(try with_reducible rfl)
   (try simp only [zp,za,z0,zs]);apply tp 5 21 rfl (by kernel_rfl) (fun _ _ _ h=>h) (by rfl)
   ·intro wq _;go_simp;(try with_reducible rfl)
   (try simp only [zp,za,z0,zs]);apply tp 7 5 rfl (by kernel_rfl) (fun _ _ _ h=>h) (by rfl)
   ·intro wq _;go_simp;(try with_reducible rfl)
   (try simp only [zp,za,z0,zs]);refine aA (i:=8) (by kernel_rfl) rfl (by kernel_rfl) (fun K hK=>?_);have z0:=Gf.out.frozen 0;have z1:=(Gf.out.put 0 (.int .i64 0)).frozen 1;have z2:=Gf.out.cell 0;have z3:=(Gf.out.put 0 (.int .i64 0)).cell 1;go_simp;(try dsimp only);refine hK.out _ _ ?_;clear hK K;refine aJ (by kernel_rfl) ?_ _;go_simp;go_wp2_with fail;go_meet;rw [rK Gf.out rfl,rK Gf.out rfl];exact⟨Ba,ma,qa,va.heap.size,rfl,rfl,Wt.out,Gf.out,L6.out⟩
  go_simp;(try dsimp only);refine hK.out _ _ ?_ (fun bg=>?_);exact HC.out _ ((aC (Below.refl W2.heap.size W2)).alloc (Nat.le_refl _) _);clear hK K;(try simp only [zp,za,z0,zs]);refine aD (i:=1) (o:=⟨some 18,_,_,_,_,_⟩) (by kernel_rfl) rfl (fun K hK=>?_);go_simp;go_at_call 7;refine(SI.out (W2.drew.alloc (.cells #[.int .i64 0,.int .i64 0] 38))).mono ?_;rintro e va ⟨ua,rfl,Ss,hda⟩;obtain⟨Da,ka,rfl,hka⟩:=aI Ss;have Dx:=qqh (show Below W2.heap.size W2 va from((aC (Below.refl W2.heap.size W2)).alloc (Nat.le_refl _) _).trans (hda.mono ((aC (Below.refl W2.heap.size W2)).alloc (Nat.le_refl _) _).size));have YX:=qqh (Rd.cP Ss);have VT:=qqh (show aj va W2.heap.size 38 #[.int .i64 0,.int .i64 0] from(aj.new W2.drew 38 #[.int .i64 0,.int .i64 0]).below hda (aj.new W2.drew 38 #[.int .i64 0,.int .i64 0]).lt);clear Ss hda;(try dsimp only);refine hK.out _ _ ?_ (fun bg=>?_);exact HC.out _ Dx.out;clear hK K;(try simp only [zp,za,z0,zs]);refine aD (i:=2) (o:=⟨some 19,_,_,_,_,_⟩) (by kernel_rfl) rfl (fun K hK=>?_);go_simp;go_at_call 8;refine(dO.out va Dx.out Da ka hka YX.out).mono ?_;rintro e ga ⟨⟨Ba,ma,qa,rfl,qt⟩,hba⟩;have L6:=qqh (show Below W2.heap.size W2 ga from(Dx.out).trans (hba.mono (Dx.out).size));have Wt:=qqh qt.of;have Gf:=qqh (VT.out.below hba VT.out.lt);clear qt hba;(try dsimp only);refine hK.out _ _ ?_ (fun bg=>?_);exact HC.out _ L6.out;clear hK K;(try simp only [zp,za,z0,zs]);apply tp 3 16 rfl (by kernel_rfl) (fun _ _ _ h=>h) (by rfl)
  ·intro wq _;go_simp;(try with_reducible rfl)
  (try simp only [zp,za,z0,zs]);apply tp 4 20 rfl (by kernel_rfl) (fun _ _ _ h=>h) (by rfl)
  ·intro wq _;go_simp;(try with_reducible rfl)
  (try simp only [zp,za,z0,zs]);apply tp 5 21 rfl (by kernel_rfl) (fun _ _ _ h=>h) (by rfl)
  ·intro wq _;go_simp;(try with_reducible rfl)
  (try simp only [zp,za,z0,zs]);apply tp 7 5 rfl (by kernel_rfl) (fun _ _ _ h=>h) (by rfl)
  ·intro wq _;go_simp;(try with_reducible rfl)
  (try simp only [zp,za,z0,zs]);refine aA (i:=8) (by kernel_rfl) rfl (by kernel_rfl) (fun K hK=>?_);have z0:=Gf.out.frozen 0;have z1:=(Gf.out.put 0 (.int .i64 0)).frozen 1;have z2:=Gf.out.cell 0;have z3:=(Gf.out.put 0 (.int .i64 0)).cell 1;go_simp;(try dsimp only);refine hK.out _ _ ?_;clear hK K;refine aJ (by kernel_rfl) ?_ _;go_simp;go_wp2_with fail;go_meet;rw [rK Gf.out rfl,rK Gf.out rfl];exact⟨Ba,ma,qa,W2.heap.size,rfl,rfl,Wt.out,Gf.out,L6.out⟩
 obtain⟨D,m,d,G,rfl,rfl,hrd,PE,hbc⟩:=hcut;have hm:m=4:=hrd.len.symm;subst hm;obtain⟨b,off,rfl,eF,Bf⟩:=hrd.2 (by decide);have qu:(convert 33 9 (.slice (some ⟨b,off,none⟩) 4 d)).run Tryz.prog wc=.ok (.string ⟨#[89,88,66,195,137]⟩) wc:=by
  rw [run_convert_runes (P:=Tryz.prog) wc 33 9 21 ⟨b,off,none⟩ 4 d [89,88,66,201] (by simp) Tryz.underlying33 Tryz.underlying21 Tryz.underlying9 ?_]
  ·rw [show([89,88,66,201]:List Int).take 4 = [89,88,66,201] from rfl,Lk]
  intro j hj;rw [ia];refine Bf j _ ?_;rw [eH,List.getElem?_eq_getElem hj,List.getD_eq_getElem?_getD,List.getElem?_eq_getElem hj];rfl
 have TI:=qqh (bD.out.trans (hbc.mono bD.out.size));have g0:=PE.cell 0;have g1:=(aj.below eZ.out hbc eZ.out.lt).cell 0;have g2:=(aj.below lT.out hbc lT.out.lt).cell 0;clear hrd PE hbc Bf s0 s1 s2 HC dO mT jx lT eZ SI;go_wp2_with fail;go_ret;exact⟨rfl,TI.out⟩
end Go.Proofs.YtkggjgeihhialaaGreatDoor
