/- RdFile + TopSingle + TopAlive + TopTitle -/
import Derived.Test.YtblinekbpcdbfaaGreatDoorZv42
import Derived.Deep.CutRange
import Derived.Test.YtblinekbpcdbfaaGreatDoorZv25
import Derived.Test.YtblinekbpcdbfaaGreatDoorZv35
import Derived.Test.YtblinekbpcdbfaaGreatDoorZv2
import Derived.Test.YtblinekbpcdbfaaGreatDoorZv41
import Derived.Test.YtblinekbpcdbfaaGreatDoorZv33
import Derived.Test.YtblinekbpcdbfaaGreatDoorZv7
import Derived.Test.YtblinekbpcdbfaaGreatDoorZv3
import Derived.Lib.RuneCountTail
import Derived.Lib.MapLaws
import Derived.Test.YtblinekbpcdbfaaGreatDoorZv12
import Derived.Deep.DeepCutAuto
import Derived.Deep.CutBlock
import Derived.Test.YtblinekbpcdbfaaGreatDoorZv36
set_option maxHeartbeats 12800000
set_option maxRecDepth 100000
namespace Go.Proofs.YtblinekbpcdbfaaGreatDoor
open Go.RowKit
theorem Jk {L:List Int} {f i:Nat} {l:List aG} (h:pk L (ax L i)<0):iA L (f+1) i l=.ok l:=by rw [iA,if_pos h]
theorem FJ {L:List Int} {f i:Nat} {l:List aG} (h:¬ pk L (ax L i)<0) (h2:l.length=200):iA L (f+1) i l=.error (5,ax L i):=by rw [iA,if_neg h,if_pos h2]
theorem EC {L:List Int} {f i:Nat} {l:List aG} {e:Int × Nat} (h:¬ pk L (ax L i)<0) (h2:¬ l.length=200) (h3:jQ L (ax L i)=.error e):iA L (f+1) i l=.error e:=by rw [iA,if_neg h,if_neg h2,h3]
theorem Ez {L:List Int} {f i j:Nat} {l:List aG} {p:aG} {e:Int × Nat} (h:¬ pk L (ax L i)<0) (h2:¬ l.length=200) (h3:jQ L (ax L i)=.ok (p,j)) (h4:aQ L (ax L j) 59=.error e):iA L (f+1) i l=.error e:=by rw [iA,if_neg h,if_neg h2,h3];simp only;rw [h4]
theorem Ft {L:List Int} {f i j k:Nat} {l:List aG} {p:aG} (h:¬ pk L (ax L i)<0) (h2:¬ l.length=200) (h3:jQ L (ax L i)=.ok (p,j)) (h4:aQ L (ax L j) 59=.ok k):iA L (f+1) i l=iA L f k (l++[p]):=by rw [iA,if_neg h,if_neg h2,h3];simp only;rw [h4]
theorem nW {w:World} {X:Nat→Prop} {p:aG} {cs:List Value} (h:eu w X p cs):∃ v0 v1 v2 v3 v4 v5 v6 v7 v8 v9 v10 v11 v12 uZ uV vh,cs = [v0,v1,v2,v3,v4,v5,v6,v7,v8,v9,v10,v11,v12,uZ,uV,vh]:=by
 obtain⟨A',n',c',L1,a1,x1,L2,a2,x2,L3,a3,x3,R1,b1,y1,R2,b2,y2,R3,b3,y3,rfl⟩:=h.form;exact⟨_,_,_,_,_,_,_,_,_,_,_,_,_,_,_,_,rfl⟩
theorem Gh (s:ByteArray) (w:World) (hs:s.size≤1099511627776) :
    Calls Tryz.prog 13 #[.string s] w (zo w (jJ (aR s 0))):=by
  obtain⟨i0,KQ,u0,z1,z2⟩:=info_parts I2
  have hmf:∀ (fn:Fn) (first cap:Array Value) (w:World),(Instr.makeFunc fn first cap).run Tryz.prog w=.ok (.func fn first cap) w:=fun _ _ _ _=>rfl
  have HD:=qqh (fun(W:World)=>show Calls Tryz.prog 6 #[.string s] W fun e w'=>∃ v,e=.returned v∧qo w' W.heap.size v (aR s 0)∧Below W.heap.size W w' from qx s W hs)
  have HV:=qqh (show fZ (aR s 0) from yX s)
  have hLs:(aR s 0).length≤s.size:=by
    unfold aR
    rw [List.length_map]
    have:=qT s s.size 0 (by omega)
    omega
  generalize aR s 0=L at *
  have ep:=qqh (show Below w.heap.size w ((w.alloc (.cells #[.slice none 0 0] 42)).alloc (.cells #[.int .i64 0,.int .i64 0] 38)) from(qqb.alloc qql _).alloc (by simp) _)
  have fQ:=qqh (show aj ((w.alloc (.cells #[.slice none 0 0] 42)).alloc (.cells #[.int .i64 0,.int .i64 0] 38)) w.heap.size 42 #[.slice none 0 0] from(aj.new w _ _).alloc _)
  have rT:=qqh (show aj ((w.alloc (.cells #[.slice none 0 0] 42)).alloc (.cells #[.int .i64 0,.int .i64 0] 38)) (w.heap.size+1) 38 #[.int .i64 0,.int .i64 0] from by
    have:=aj.new (w.alloc (.cells #[.slice none 0 0] 42)) 38 #[.int .i64 0,.int .i64 0]
    simpa using this)
  have XI:=qqh (show w.heap.size+2≤((w.alloc (.cells #[.slice none 0 0] 42)).alloc (.cells #[.int .i64 0,.int .i64 0] 38)).heap.size by simp)
  go_enter_defers Tryz.func13,Tryz.ntmps13
  go_wp2_with fail
  refine(HD.out _).mono ?_
  rintro e w1 ⟨v,rfl,ho,hb⟩
  have bJ:=qqh (ep.out.trans (hb.mono ep.out.size))
  have iE:=qqh (fQ.out.below hb fQ.out.lt)
  have fY:=qqh (rT.out.below hb rT.out.lt)
  have oQ:w.heap.size+2≤w1.heap.size:=Nat.le_trans XI.out hb.size
  obtain⟨n,hn⟩:∃ n,L.length=n:=⟨_,rfl⟩
  unfold qo at ho
  rw [hn]at ho
  have Zd:n≤4611686018427387904:=by omega
  obtain⟨A,c,rfl,hnc⟩:=aJ ho
  have hrow:cV (w1.alloc (.cells #[.slice A n c,.int .i64 0] 79)) (fun b=>w.heap.size+2≤b∧b<w1.heap.size) 1 A n (runeCells L) :=
    (cV.cC (X:=fun b=>w.heap.size+2≤b∧b<w1.heap.size) ho (fun b hb=>⟨Nat.le_trans XI.out (bk ho hb).1,(bk ho hb).2⟩)).keep (ag.alloc _ (fun b hb _=>hb))
  have oP:=qqh (show uw w w1.heap.size A n c L (w1.alloc (.cells #[.slice A n c,.int .i64 0] 79)) 0 (.slice none 0 0) [] from
    ⟨⟨⟨_,aj.new _ _ _⟩,hrow.lift (fun b h=>by have:=h.2;omega),Zd,Nat.zero_le _,hnc⟩,hrow,iE.out.alloc _,fY.out.alloc _,gB.nil _ _ _,bJ.out.alloc bJ.out.size _,oQ⟩)
  have hC:w1.heap.size+1≤(w1.alloc (.cells #[.slice A n c,.int .i64 0] 79)).heap.size:=by simp
  have Pt:=qqh hn
  clear ho hb HD fQ rT ep XI hrow bJ iE fY
  go_upto_region 4 with fail
  generalize w1.alloc (.cells #[.slice A n c,.int .i64 0] 79)=w2 at *
  generalize w1.heap.size=C at *
  have c0:=oP.out.cur.blk.cell 0
  by_cases wK:16000<n
  · have mh:=qqh (DL (L:=L) (by rw [hn];exact wK))
    have En:=qqh (fun(W:World)=>bT 4 0 W)
    clear hn
    go_wp2_with fail
    refine(En.out _).mono ?_
    rintro e w3 ⟨rfl,rfl⟩
    go_wp2_with fail
    refine gJ _ (w.heap.size+1) w.heap.size w.heap.size 4 0 0 0 _ _ _ _ _ rfl rfl oP.out.flt oP.out.res (by omega) (by omega) qql oP.out.below.size (by decide) (fun W2 aX=>?_)
    rw [mh.out]
    exact⟨⟨none,0,0,rfl,gQ.nil _ _,qql⟩,oP.out.below.trans aX⟩
  · have HMU:=qqh (show ¬ 16000<L.length from fun h=>wK (by rw [← hn];exact h))
    have PN:n≤16000:=by omega
    have ie:=qqh (fun(W:World) (m:Nat) (h:av W C A n c L m)=>cG W C A n c L m h)
    have qD:=qqh (fun(W:World) (m:Nat) (h:av W C A n c L m)=>ju W C A n c L m h)
    have Ja:=qqh (fun(W:World) (m:Nat) (r:Int) (h:av W C A n c L m) (hr:r ≠ -1)=>fc W C A n c L m r h hr)
    have pE:=qqh (fun(W:World) (m:Nat) (h:av W C A n c L m)=>OL W C A n c L m h HV.out (by omega))
    obtain⟨R0,Vt⟩:∃ R0,iA L (L.length+1) 0 [] = R0:=⟨_,rfl⟩
    have kN:=qqh (fun(x:Int) (p:Nat) (h:R0=.error (x,p))=>show jJ L=([],(x,(p:Int))) from EU HMU.out (Vt.trans h))
    have HXN:=qqh (fun(x:Int) (p:Nat) (h:R0=.error (x,p))=>show x≠0 from IE L _ _ _ _ _ (Vt.trans h))
    have Q7:=qqh (fun(l:List aG) (h:R0=.ok l)=>show jJ L=(l,(0,0)) from Ii HMU.out (Vt.trans h))
    have fQ:=qqh Vt
    generalize jJ L=RP at *
    have aad:decide ((16000:Int)<(n:Int))=false:=decide_eq_false (by omega)
    clear hn Vt wK
    go_wp2_with fail
    refine(qD.out _ 0 oP.out.cur).mono ?_
    rintro e w3 ⟨rfl,lA,bP⟩
    have eI:=qqh (oP.out.step lA bP)
    have hC3:C+1≤w3.heap.size:=Nat.le_trans hC bP.1
    clear lA bP c0 aad hC
    go_wp2_with fail
    go_loopw [25] (fun _ wr=>∃ (f j:Nat) (acc:List aG) (v:Value),j≤n∧n+1≤f+j∧R0=iA L f j acc∧acc.length≤200∧uw w C A n c L wr (ax L j) v acc∧C+1≤wr.heap.size) (fun _ wr=>n - (match wr.cell? ⟨C,1,none⟩with | some (.int _ j)=>j.toNat | _=>0))
    case atStart=>exact⟨L.length+1,0,[],_,Nat.zero_le _,by have:=Pt.out;omega,fQ.out.symm,Nat.zero_le _,eI.out,hC3⟩
    case round=>
      obtain⟨f0,j,acc,v,hj,hf,aZ,Fk,hfl,hCr⟩:=hrel
      obtain⟨f,rfl⟩:∃ f,f0=f+1:=⟨f0 - 1,by omega⟩
      obtain⟨a,ha⟩:∃ a,ax L j=a:=⟨_,rfl⟩
      have KZ:j≤a:=by rw [← ha];exact de L j
      have eU:=qqh aZ
      have HA:=qqh ha
      rw [ha]at hfl
      have oP:=qqh hfl
      have mC:=qqh (hfl.cur.blk.cell 1)
      have han:=hfl.cur.le
      obtain⟨Av,cv,rfl,sZ⟩:=hfl.own.form
      clear aZ ha hfl
      go_wp2_with fail
      refine(ie.out _ a oP.out.cur).mono ?_
      rintro e w4 ⟨rfl,lW,hb4⟩
      have iz:=qqh (oP.out.step lW hb4)
      have hC4:C+1≤w4.heap.size:=Nat.le_trans hCr hb4.1
      clear lW hb4
      have r4:=iz.out.res.cell 0
      by_cases hneg:pk L a<0
      · have hg:decide ((0:Int)≤pk L a)=false:=decide_eq_false (by omega)
        have mh:=qqh (Q7.out acc (eU.out.trans (Jk (by rw [HA.out];exact hneg))))
        clear hneg
        go_wp2_with fail
        have r5:=iz.out.res.frozen 0
        have s4:=iz.out.flt.cell 0
        have s5:=iz.out.flt.cell 1
        have s6:=iz.out.flt.frozen 0
        have s7:=iz.out.flt.frozen 1
        go_region
        obtain⟨h9R,h9F,h9B⟩:=Bz (m:=1) iz.out.res iz.out.flt (show w.heap.size≠w.heap.size+1 by omega)
        obtain⟨h9b,h9k⟩:=h9B w.heap.size qql (by omega) iz.out.below.size
        have hW:(((w4.setCell { block:=w.heap.size,off:=0 } (Value.slice Av acc.length cv)).setCell { block:=w.heap.size+1,off:=0 } (Value.int IntKind.i64 0)).setCell { block:=w.heap.size+1,off:=1 } (Value.int IntKind.i64 0)).drew=(((w4.drewN 1).setCell { block:=w.heap.size,off:=0 } (Value.slice Av acc.length cv)).setCell { block:=w.heap.size+1,off:=0 } (Value.int IntKind.i64 0)).setCell { block:=w.heap.size+1,off:=1 } (Value.int IntKind.i64 0):=rfl
        rw [hW]
        have hCC:=iz.out.hC
        have lH:=qqh h9R
        have We:=qqh h9F
        have Oh:=qqh (iz.out.below.trans h9b)
        have hpx:=iz.out.own.done
        have HKK:=qqh (show ag w4 (fun b=>C+1≤b) _ (fun b=>w.heap.size≤b) from fun b hb hl=>let ⟨e,_,h2⟩:=h9k b ⟨by omega,by omega⟩ hl;⟨e,by omega,h2⟩)
        have yu:=qqh (hpx.keep HKK.out)
        clear h9R h9F h9B h9b h9k r4 r5 s4 s5 s6 s7 HKK hpx hW
        generalize (((w4.drewN 1).setCell { block:=w.heap.size,off:=0 } (Value.slice Av acc.length cv)).setCell { block:=w.heap.size+1,off:=0 } (Value.int IntKind.i64 0)).setCell { block:=w.heap.size+1,off:=1 } (Value.int IntKind.i64 0)=w9 at *
        go_wp2_with fail
        refine yx _ (w.heap.size+1) w.heap.size 0 (.slice Av acc.length cv) _ _ w9 _ rfl rfl We.out lH.out ?_
        rw [mh.out]
        exact⟨⟨Av,_,cv,rfl,yu.out,sZ⟩,Oh.out⟩
      · have hg:decide ((0:Int)≤pk L a)=true:=decide_eq_true (by omega)
        have HNG:=qqh hneg
        by_cases hm:acc.length=200
        · have HE:=qqh (eU.out.trans (FJ (by rw [HA.out];exact hneg) hm))
          have wF:=qqh (show R0=.error (5,a) by rw [HE.out,HA.out])
          have mh:=qqh (kN.out 5 a wF.out)
          have y4:=iz.out.cur.blk.cell 1
          rw [hm]at r4
          clear hneg
          go_wp2_with fail
          refine(bT 5 a _).mono ?_
          rintro e w5 ⟨rfl,rfl⟩
          go_wp2_with fail
          refine gJ _ (w.heap.size+1) w.heap.size w.heap.size 5 a 0 0 _ _ _ _ _ rfl rfl iz.out.flt iz.out.res (by omega) (by omega) qql iz.out.below.size (by decide) (fun W2 aX=>?_)
          rw [mh.out]
          exact⟨⟨none,0,0,rfl,gQ.nil _ _,qql⟩,iz.out.below.trans aX⟩
        · have hm2:¬(acc.length:Int)=200:=by omega
          have qm:((acc.length:Int) == 200)=false:=by rw [beq_eq_false_iff_ne];exact hm2
          have HM:=qqh hm
          clear hm hm2
          generalize FC:acc.length=al at *
          cases hp:jQ L a with
          | error e0=>
            obtain⟨x,p⟩:=e0
            have HE:=qqh (eU.out.trans (EC (by rw [HA.out];exact hneg) (by rw [FC];exact HM.out) (by rw [HA.out];exact hp)))
            have mh:=qqh (kN.out x p HE.out)
            have hx:=HXN.out x p HE.out
            have Em:=qqh (fun(W:World) (h:av W C A n c L a)=>show Calls Tryz.prog 32 #[.pointer (some ⟨C,0,none⟩)] W (sV W C A n c L (.error (x,p))) by have:=pE.out W a h;rwa [hp]at this)
            clear hp hneg
            go_upto_region 11 with fail
            have iV:=qqh (iz.out.on (aE (Below.refl w4.heap.size w4)))
            have hCC:=iz.out.hC
            -- {err
            refine ay (S:=fun _=>True) [] (by kernel_rfl) trivial (fun _=>?_)
            refine eM (i:=0) (j:=1) (o:=⟨some 37,_,_,_,_,_⟩) (o2:=⟨some 38,_,_,_,_,_⟩) (by kernel_rfl) rfl rfl (fun K hK=>?_) (fun K hK=>?_)
            · go_simp
              try dsimp only
              refine hK.out _ _ trivial (fun _=>?_)
              clear hK K
              try simp only [zp,za,z0,zs]
              refine aD (i:=1) (o:=⟨some 38,_,_,_,_,_⟩) (by kernel_rfl) rfl (fun K hK=>?_)
              go_simp
              try dsimp only
              refine hK.out _ _ trivial (fun _=>?_)
              clear hK K
              try simp only [zp,za,z0,zs]
              refine aD (i:=2) (o:=⟨some 39,_,_,_,_,_⟩) (by kernel_rfl) rfl (fun K hK=>?_)
              go_simp
              go_at_call 32
              refine(Em.out _ iV.out.cur).mono ?_
              rintro e w5 ⟨he,dN⟩
              unfold aS at he
              subst he
              have F0:=(dN.2.2.2.2 _ iV.out.res.lt (by omega)).trans iV.out.res
              have Lt:=(dN.2.2.2.2 _ iV.out.flt.lt (by omega)).trans iV.out.flt
              have BN:=qqh F0
              have kj:=qqh Lt
              have dG:=qqh (iV.out.below.trans (dN.to iV.out.below.size (by omega)))
              clear dN F0 Lt
              go_wp2_with fail
              refine gJ _ (w.heap.size+1) w.heap.size w.heap.size x p 0 0 _ _ _ _ _ rfl rfl kj.out BN.out (by omega) (by omega) qql dG.out.size hx (fun W2 aX=>?_)
              rw [mh.out]
              exact⟨⟨none,0,0,rfl,gQ.nil _ _,qql⟩,dG.out.trans aX⟩
            · go_simp
              try dsimp only
              refine hK.out _ _ trivial (fun _=>?_)
              clear hK K
              try simp only [zp,za,z0,zs]
              refine eM (i:=0) (j:=2) (o:=⟨some 37,_,_,_,_,_⟩) (o2:=⟨some 39,_,_,_,_,_⟩) (by kernel_rfl) rfl rfl (fun K hK=>?_) (fun K hK=>?_)
              · go_simp
                try dsimp only
                refine hK.out _ _ trivial (fun _=>?_)
                clear hK K
                try simp only [zp,za,z0,zs]
                refine aD (i:=2) (o:=⟨some 39,_,_,_,_,_⟩) (by kernel_rfl) rfl (fun K hK=>?_)
                go_simp
                go_at_call 32
                refine(Em.out _ iV.out.cur).mono ?_
                rintro e w5 ⟨he,dN⟩
                unfold aS at he
                subst he
                have F0:=(dN.2.2.2.2 _ iV.out.res.lt (by omega)).trans iV.out.res
                have Lt:=(dN.2.2.2.2 _ iV.out.flt.lt (by omega)).trans iV.out.flt
                have BN:=qqh F0
                have kj:=qqh Lt
                have dG:=qqh (iV.out.below.trans (dN.to iV.out.below.size (by omega)))
                clear dN F0 Lt
                go_wp2_with fail
                refine gJ _ (w.heap.size+1) w.heap.size w.heap.size x p 0 0 _ _ _ _ _ rfl rfl kj.out BN.out (by omega) (by omega) qql dG.out.size hx (fun W2 aX=>?_)
                rw [mh.out]
                exact⟨⟨none,0,0,rfl,gQ.nil _ _,qql⟩,dG.out.trans aX⟩
              · go_simp
                go_at_call 32
                refine(Em.out _ iV.out.cur).mono ?_
                rintro e w5 ⟨he,dN⟩
                unfold aS at he
                subst he
                have F0:=(dN.2.2.2.2 _ iV.out.res.lt (by omega)).trans iV.out.res
                have Lt:=(dN.2.2.2.2 _ iV.out.flt.lt (by omega)).trans iV.out.flt
                have BN:=qqh F0
                have kj:=qqh Lt
                have dG:=qqh (iV.out.below.trans (dN.to iV.out.below.size (by omega)))
                clear dN F0 Lt
                go_wp2_with fail
                refine gJ _ (w.heap.size+1) w.heap.size w.heap.size x p 0 0 _ _ _ _ _ rfl rfl kj.out BN.out (by omega) (by omega) qql dG.out.size hx (fun W2 aX=>?_)
                rw [mh.out]
                exact⟨⟨none,0,0,rfl,gQ.nil _ _,qql⟩,dG.out.trans aX⟩
            -- err}
          | ok q=>
            obtain⟨p,j2⟩:=q
            have Em:=qqh (fun(W:World) (h:av W C A n c L a)=>show Calls Tryz.prog 32 #[.pointer (some ⟨C,0,none⟩)] W (sV W C A n c L (.ok (p,j2))) by have:=pE.out W a h;rwa [hp]at this)
            have HP:=qqh hp
            have iV:=qqh (iz.out.on (aE (Below.refl w4.heap.size w4)))
            have hCC:=iz.out.hC
            have GZ:=qqh (fun(b:Nat) (hb:w4.heap.size≤b)=>iz.out.own.apart hb)
            have Qp:=qqh (show(acc++[p]).length=al+1 by rw [List.length_append,FC];rfl)
            clear hp hneg
            go_upto_region 11 with fail
            go_cut [] from 21 to 47 (fun wx=>∃ v':Value,uw w C A n c L wx j2 v' (acc++[p])∧C+1≤wx.heap.size)
            case first=>
              -- {ok
              refine ay (S:=fun _=>True) [] (by kernel_rfl) trivial (fun _=>?_)
              refine eM (i:=0) (j:=1) (o:=⟨some 37,_,_,_,_,_⟩) (o2:=⟨some 38,_,_,_,_,_⟩) (by kernel_rfl) rfl rfl (fun K hK=>?_) (fun K hK=>?_)
              · go_simp
                try dsimp only
                refine hK.out _ _ trivial (fun _=>?_)
                clear hK K
                try simp only [zp,za,z0,zs]
                refine aD (i:=1) (o:=⟨some 38,_,_,_,_,_⟩) (by kernel_rfl) rfl (fun K hK=>?_)
                go_simp
                try dsimp only
                refine hK.out _ _ trivial (fun _=>?_)
                clear hK K
                try simp only [zp,za,z0,zs]
                refine aD (i:=2) (o:=⟨some 39,_,_,_,_,_⟩) (by kernel_rfl) rfl (fun K hK=>?_)
                go_simp
                go_at_call 32
                refine(Em.out _ iV.out.cur).mono ?_
                rintro e w5 ⟨⟨cs,rfl,hpx⟩,lQ,dN⟩
                obtain⟨v0,v1,v2,v3,v4,v5,v6,v7,v8,v9,v10,v11,v12,uZ,uV,vh,rfl⟩:=nW hpx
                have kj:=qqh (iV.out.step lQ dN)
                have T8:C+1≤w5.heap.size:=Nat.le_trans hC4 dN.1
                have yu:=qqh (eu.keep (X':=xO (C+1) C (.slice Av al cv)) (show ag w5 (uW w4.drew C) w5 (xO (C+1) C (.slice Av al cv)) from fun b h hl=>⟨rfl,⟨by have:=h.1;have h0:w4.drew.heap.size=w4.heap.size:=rfl;omega,h.2,GZ.out b (Nat.le_of_lt h.1)⟩,hl⟩) hpx)
                have r5:=kj.out.res.cell 0
                clear hpx lQ dN
                try dsimp only
                refine hK.out _ _ trivial (fun _=>?_)
                clear hK K
                try simp only [zp,za,z0,zs]
                refine aD (i:=3) (o:=⟨some 40,_,_,_,_,_⟩) (by kernel_rfl) rfl (fun K hK=>?_)
                have gP:Below w5.heap.size w5 (w5.alloc (.cells #[v0,v1,v2,v3,v4,v5,v6,v7,v8,v9,v10,v11,v12,uZ,uV,vh] 86)):=qqb.alloc qql _
                have td:=qqh (kj.out.on gP)
                have Fl:=qqh (yu.out.keep (ag.any gP))
                obtain⟨ys,fT,ej⟩:=td.out.own.push p Fl.out
                rw [FC]at fT ej
                have yq:=qqh fT
                have yf:=qqh ej
                have Dj:=qqh (Rd.new w5 86 16 1 [v0,v1,v2,v3,v4,v5,v6,v7,v8,v9,v10,v11,v12,uZ,uV,vh] rfl)
                have pT:=qqh yu.out.one.2
                have hsz:C+1≤(w5.alloc (.cells #[v0,v1,v2,v3,v4,v5,v6,v7,v8,v9,v10,v11,v12,uZ,uV,vh] 86)).heap.size:=Nat.le_trans T8 gP.size
                have r8:(w5.alloc (.cells #[v0,v1,v2,v3,v4,v5,v6,v7,v8,v9,v10,v11,v12,uZ,uV,vh] 86)).cell? ⟨w.heap.size,0,none⟩=some (.slice Av al cv):=td.out.res.cell 0
                clear gP fT ej
                go_simp
                try dsimp only
                refine hK.out _ _ trivial (fun _=>?_)
                clear hK K
                try simp only [zp,za,z0,zs]
                refine aD (i:=4) (o:=⟨some 41,_,_,_,_,_⟩) (by kernel_rfl) rfl (fun K hK=>?_)
                refine bD _ rfl (.tmp 37) (.tmp 40) 42 rfl (C+1) 86 i0 _ 16 232 Tryz.underlying42 KQ u0 z1 z2 rfl (by decide) _ _ _ rfl yq.out (w5.heap.size+1) (some ⟨w5.heap.size,0,none⟩) 1 1 [v0,v1,v2,v3,v4,v5,v6,v7,v8,v9,v10,v11,v12,uZ,uV,vh] rfl Dj.out pT.out (by simp only [maxLen];omega) (by omega) hsz ?_
                intro v' w9 ak
                obtain⟨A9,c9,MR,_⟩:=(yf.out v' w9 ak).form
                rw [Qp.out]at MR
                subst MR
                have oE:=qqh (td.out.push yq.out ak (yf.out _ w9 ak) hsz)
                have cN:=ak.below hsz yq.out
                have x9:w9.cell? ⟨w.heap.size,0,none⟩=some (.slice Av al cv):=(cN.cell (p:=⟨w.heap.size,0,none⟩) (show w.heap.size<C+1 by omega)).trans (td.out.res.cell 0)
                have NQ:aj w9 w.heap.size 42 #[.slice Av al cv]:=(cN.block w.heap.size (by omega)).trans td.out.res
                have y9:=NQ.frozen 0
                have Pn:=cN.size
                clear ak
                try dsimp only
                refine hK.out _ _ trivial (fun _=>?_)
                clear hK K
                try simp only [zp,za,z0,zs]
                refine aD (i:=5) (by kernel_rfl) rfl (fun K hK=>?_)
                go_simp
                try dsimp only
                refine hK.out _ _ trivial (fun _=>?_)
                clear hK K
                try simp only [Act.put,List.setIfInBounds_toArray,List.set_cons_zero,List.set_cons_succ]
                refine aK (by kernel_rfl) ?_ _
                go_wp2_with fail
                go_meet
                exact⟨_,oE.out,by simpa using Nat.le_trans hsz Pn⟩
              · go_simp
                try dsimp only
                refine hK.out _ _ trivial (fun _=>?_)
                clear hK K
                try simp only [Act.put,List.setIfInBounds_toArray,List.set_cons_zero,List.set_cons_succ]
                refine eM (i:=0) (j:=2) (o:=⟨some 37,_,_,_,_,_⟩) (o2:=⟨some 39,_,_,_,_,_⟩) (by kernel_rfl) rfl rfl (fun K hK=>?_) (fun K hK=>?_)
                · go_simp
                  try dsimp only
                  refine hK.out _ _ trivial (fun _=>?_)
                  clear hK K
                  try simp only [zp,za,z0,zs]
                  refine aD (i:=2) (o:=⟨some 39,_,_,_,_,_⟩) (by kernel_rfl) rfl (fun K hK=>?_)
                  go_simp
                  go_at_call 32
                  refine(Em.out _ iV.out.cur).mono ?_
                  rintro e w5 ⟨⟨cs,rfl,hpx⟩,lQ,dN⟩
                  obtain⟨v0,v1,v2,v3,v4,v5,v6,v7,v8,v9,v10,v11,v12,uZ,uV,vh,rfl⟩:=nW hpx
                  have kj:=qqh (iV.out.step lQ dN)
                  have T8:C+1≤w5.heap.size:=Nat.le_trans hC4 dN.1
                  have yu:=qqh (eu.keep (X':=xO (C+1) C (.slice Av al cv)) (show ag w5 (uW w4.drew C) w5 (xO (C+1) C (.slice Av al cv)) from fun b h hl=>⟨rfl,⟨by have:=h.1;have h0:w4.drew.heap.size=w4.heap.size:=rfl;omega,h.2,GZ.out b (Nat.le_of_lt h.1)⟩,hl⟩) hpx)
                  have r5:=kj.out.res.cell 0
                  clear hpx lQ dN
                  try dsimp only
                  refine hK.out _ _ trivial (fun _=>?_)
                  clear hK K
                  try simp only [zp,za,z0,zs]
                  refine aD (i:=3) (o:=⟨some 40,_,_,_,_,_⟩) (by kernel_rfl) rfl (fun K hK=>?_)
                  have gP:Below w5.heap.size w5 (w5.alloc (.cells #[v0,v1,v2,v3,v4,v5,v6,v7,v8,v9,v10,v11,v12,uZ,uV,vh] 86)):=qqb.alloc qql _
                  have td:=qqh (kj.out.on gP)
                  have Fl:=qqh (yu.out.keep (ag.any gP))
                  obtain⟨ys,fT,ej⟩:=td.out.own.push p Fl.out
                  rw [FC]at fT ej
                  have yq:=qqh fT
                  have yf:=qqh ej
                  have Dj:=qqh (Rd.new w5 86 16 1 [v0,v1,v2,v3,v4,v5,v6,v7,v8,v9,v10,v11,v12,uZ,uV,vh] rfl)
                  have pT:=qqh yu.out.one.2
                  have hsz:C+1≤(w5.alloc (.cells #[v0,v1,v2,v3,v4,v5,v6,v7,v8,v9,v10,v11,v12,uZ,uV,vh] 86)).heap.size:=Nat.le_trans T8 gP.size
                  have r8:(w5.alloc (.cells #[v0,v1,v2,v3,v4,v5,v6,v7,v8,v9,v10,v11,v12,uZ,uV,vh] 86)).cell? ⟨w.heap.size,0,none⟩=some (.slice Av al cv):=td.out.res.cell 0
                  clear gP fT ej
                  go_simp
                  try dsimp only
                  refine hK.out _ _ trivial (fun _=>?_)
                  clear hK K
                  try simp only [zp,za,z0,zs]
                  refine aD (i:=4) (o:=⟨some 41,_,_,_,_,_⟩) (by kernel_rfl) rfl (fun K hK=>?_)
                  refine bD _ rfl (.tmp 37) (.tmp 40) 42 rfl (C+1) 86 i0 _ 16 232 Tryz.underlying42 KQ u0 z1 z2 rfl (by decide) _ _ _ rfl yq.out (w5.heap.size+1) (some ⟨w5.heap.size,0,none⟩) 1 1 [v0,v1,v2,v3,v4,v5,v6,v7,v8,v9,v10,v11,v12,uZ,uV,vh] rfl Dj.out pT.out (by simp only [maxLen];omega) (by omega) hsz ?_
                  intro v' w9 ak
                  obtain⟨A9,c9,MR,_⟩:=(yf.out v' w9 ak).form
                  rw [Qp.out]at MR
                  subst MR
                  have oE:=qqh (td.out.push yq.out ak (yf.out _ w9 ak) hsz)
                  have cN:=ak.below hsz yq.out
                  have x9:w9.cell? ⟨w.heap.size,0,none⟩=some (.slice Av al cv):=(cN.cell (p:=⟨w.heap.size,0,none⟩) (show w.heap.size<C+1 by omega)).trans (td.out.res.cell 0)
                  have NQ:aj w9 w.heap.size 42 #[.slice Av al cv]:=(cN.block w.heap.size (by omega)).trans td.out.res
                  have y9:=NQ.frozen 0
                  have Pn:=cN.size
                  clear ak
                  try dsimp only
                  refine hK.out _ _ trivial (fun _=>?_)
                  clear hK K
                  try simp only [zp,za,z0,zs]
                  refine aD (i:=5) (by kernel_rfl) rfl (fun K hK=>?_)
                  go_simp
                  try dsimp only
                  refine hK.out _ _ trivial (fun _=>?_)
                  clear hK K
                  try simp only [Act.put,List.setIfInBounds_toArray,List.set_cons_zero,List.set_cons_succ]
                  refine aK (by kernel_rfl) ?_ _
                  go_wp2_with fail
                  go_meet
                  exact⟨_,oE.out,by simpa using Nat.le_trans hsz Pn⟩
                · go_simp
                  go_at_call 32
                  refine(Em.out _ iV.out.cur).mono ?_
                  rintro e w5 ⟨⟨cs,rfl,hpx⟩,lQ,dN⟩
                  obtain⟨v0,v1,v2,v3,v4,v5,v6,v7,v8,v9,v10,v11,v12,uZ,uV,vh,rfl⟩:=nW hpx
                  have kj:=qqh (iV.out.step lQ dN)
                  have T8:C+1≤w5.heap.size:=Nat.le_trans hC4 dN.1
                  have yu:=qqh (eu.keep (X':=xO (C+1) C (.slice Av al cv)) (show ag w5 (uW w4.drew C) w5 (xO (C+1) C (.slice Av al cv)) from fun b h hl=>⟨rfl,⟨by have:=h.1;have h0:w4.drew.heap.size=w4.heap.size:=rfl;omega,h.2,GZ.out b (Nat.le_of_lt h.1)⟩,hl⟩) hpx)
                  have r5:=kj.out.res.cell 0
                  clear hpx lQ dN
                  try dsimp only
                  refine hK.out _ _ trivial (fun _=>?_)
                  clear hK K
                  try simp only [Act.put,List.setIfInBounds_toArray,List.set_cons_zero,List.set_cons_succ]
                  refine eM (i:=0) (j:=3) (o:=⟨some 37,_,_,_,_,_⟩) (o2:=⟨some 40,_,_,_,_,_⟩) (by kernel_rfl) rfl rfl (fun K hK=>?_) (fun K hK=>?_)
                  · go_simp
                    try dsimp only
                    refine hK.out _ _ trivial (fun _=>?_)
                    clear hK K
                    try simp only [zp,za,z0,zs]
                    refine aD (i:=3) (o:=⟨some 40,_,_,_,_,_⟩) (by kernel_rfl) rfl (fun K hK=>?_)
                    have gP:Below w5.heap.size w5 (w5.alloc (.cells #[v0,v1,v2,v3,v4,v5,v6,v7,v8,v9,v10,v11,v12,uZ,uV,vh] 86)):=qqb.alloc qql _
                    have td:=qqh (kj.out.on gP)
                    have Fl:=qqh (yu.out.keep (ag.any gP))
                    obtain⟨ys,fT,ej⟩:=td.out.own.push p Fl.out
                    rw [FC]at fT ej
                    have yq:=qqh fT
                    have yf:=qqh ej
                    have Dj:=qqh (Rd.new w5 86 16 1 [v0,v1,v2,v3,v4,v5,v6,v7,v8,v9,v10,v11,v12,uZ,uV,vh] rfl)
                    have pT:=qqh yu.out.one.2
                    have hsz:C+1≤(w5.alloc (.cells #[v0,v1,v2,v3,v4,v5,v6,v7,v8,v9,v10,v11,v12,uZ,uV,vh] 86)).heap.size:=Nat.le_trans T8 gP.size
                    have r8:(w5.alloc (.cells #[v0,v1,v2,v3,v4,v5,v6,v7,v8,v9,v10,v11,v12,uZ,uV,vh] 86)).cell? ⟨w.heap.size,0,none⟩=some (.slice Av al cv):=td.out.res.cell 0
                    clear gP fT ej
                    go_simp
                    try dsimp only
                    refine hK.out _ _ trivial (fun _=>?_)
                    clear hK K
                    try simp only [zp,za,z0,zs]
                    refine aD (i:=4) (o:=⟨some 41,_,_,_,_,_⟩) (by kernel_rfl) rfl (fun K hK=>?_)
                    refine bD _ rfl (.tmp 37) (.tmp 40) 42 rfl (C+1) 86 i0 _ 16 232 Tryz.underlying42 KQ u0 z1 z2 rfl (by decide) _ _ _ rfl yq.out (w5.heap.size+1) (some ⟨w5.heap.size,0,none⟩) 1 1 [v0,v1,v2,v3,v4,v5,v6,v7,v8,v9,v10,v11,v12,uZ,uV,vh] rfl Dj.out pT.out (by simp only [maxLen];omega) (by omega) hsz ?_
                    intro v' w9 ak
                    obtain⟨A9,c9,MR,_⟩:=(yf.out v' w9 ak).form
                    rw [Qp.out]at MR
                    subst MR
                    have oE:=qqh (td.out.push yq.out ak (yf.out _ w9 ak) hsz)
                    have cN:=ak.below hsz yq.out
                    have x9:w9.cell? ⟨w.heap.size,0,none⟩=some (.slice Av al cv):=(cN.cell (p:=⟨w.heap.size,0,none⟩) (show w.heap.size<C+1 by omega)).trans (td.out.res.cell 0)
                    have NQ:aj w9 w.heap.size 42 #[.slice Av al cv]:=(cN.block w.heap.size (by omega)).trans td.out.res
                    have y9:=NQ.frozen 0
                    have Pn:=cN.size
                    clear ak
                    try dsimp only
                    refine hK.out _ _ trivial (fun _=>?_)
                    clear hK K
                    try simp only [zp,za,z0,zs]
                    refine aD (i:=5) (by kernel_rfl) rfl (fun K hK=>?_)
                    go_simp
                    try dsimp only
                    refine hK.out _ _ trivial (fun _=>?_)
                    clear hK K
                    try simp only [Act.put,List.setIfInBounds_toArray,List.set_cons_zero,List.set_cons_succ]
                    refine aK (by kernel_rfl) ?_ _
                    go_wp2_with fail
                    go_meet
                    exact⟨_,oE.out,by simpa using Nat.le_trans hsz Pn⟩
                  · have gP:Below w5.heap.size w5 (w5.alloc (.cells #[v0,v1,v2,v3,v4,v5,v6,v7,v8,v9,v10,v11,v12,uZ,uV,vh] 86)):=qqb.alloc qql _
                    have td:=qqh (kj.out.on gP)
                    have Fl:=qqh (yu.out.keep (ag.any gP))
                    obtain⟨ys,fT,ej⟩:=td.out.own.push p Fl.out
                    rw [FC]at fT ej
                    have yq:=qqh fT
                    have yf:=qqh ej
                    have Dj:=qqh (Rd.new w5 86 16 1 [v0,v1,v2,v3,v4,v5,v6,v7,v8,v9,v10,v11,v12,uZ,uV,vh] rfl)
                    have pT:=qqh yu.out.one.2
                    have hsz:C+1≤(w5.alloc (.cells #[v0,v1,v2,v3,v4,v5,v6,v7,v8,v9,v10,v11,v12,uZ,uV,vh] 86)).heap.size:=Nat.le_trans T8 gP.size
                    have r8:(w5.alloc (.cells #[v0,v1,v2,v3,v4,v5,v6,v7,v8,v9,v10,v11,v12,uZ,uV,vh] 86)).cell? ⟨w.heap.size,0,none⟩=some (.slice Av al cv):=td.out.res.cell 0
                    clear gP fT ej
                    go_simp
                    try dsimp only
                    refine hK.out _ _ trivial (fun _=>?_)
                    clear hK K
                    try simp only [Act.put,List.setIfInBounds_toArray,List.set_cons_zero,List.set_cons_succ]
                    refine aD (i:=0) (o:=⟨some 37,_,_,_,_,_⟩) (by kernel_rfl) rfl (fun K hK=>?_)
                    go_simp
                    try dsimp only
                    refine hK.out _ _ trivial (fun _=>?_)
                    clear hK K
                    try simp only [zp,za,z0,zs]
                    refine aD (i:=4) (o:=⟨some 41,_,_,_,_,_⟩) (by kernel_rfl) rfl (fun K hK=>?_)
                    refine bD _ rfl (.tmp 37) (.tmp 40) 42 rfl (C+1) 86 i0 _ 16 232 Tryz.underlying42 KQ u0 z1 z2 rfl (by decide) _ _ _ rfl yq.out (w5.heap.size+1) (some ⟨w5.heap.size,0,none⟩) 1 1 [v0,v1,v2,v3,v4,v5,v6,v7,v8,v9,v10,v11,v12,uZ,uV,vh] rfl Dj.out pT.out (by simp only [maxLen];omega) (by omega) hsz ?_
                    intro v' w9 ak
                    obtain⟨A9,c9,MR,_⟩:=(yf.out v' w9 ak).form
                    rw [Qp.out]at MR
                    subst MR
                    have oE:=qqh (td.out.push yq.out ak (yf.out _ w9 ak) hsz)
                    have cN:=ak.below hsz yq.out
                    have x9:w9.cell? ⟨w.heap.size,0,none⟩=some (.slice Av al cv):=(cN.cell (p:=⟨w.heap.size,0,none⟩) (show w.heap.size<C+1 by omega)).trans (td.out.res.cell 0)
                    have NQ:aj w9 w.heap.size 42 #[.slice Av al cv]:=(cN.block w.heap.size (by omega)).trans td.out.res
                    have y9:=NQ.frozen 0
                    have Pn:=cN.size
                    clear ak
                    try dsimp only
                    refine hK.out _ _ trivial (fun _=>?_)
                    clear hK K
                    try simp only [zp,za,z0,zs]
                    refine aD (i:=5) (by kernel_rfl) rfl (fun K hK=>?_)
                    go_simp
                    try dsimp only
                    refine hK.out _ _ trivial (fun _=>?_)
                    clear hK K
                    try simp only [Act.put,List.setIfInBounds_toArray,List.set_cons_zero,List.set_cons_succ]
                    refine aK (by kernel_rfl) ?_ _
                    go_wp2_with fail
                    go_meet
                    exact⟨_,oE.out,by simpa using Nat.le_trans hsz Pn⟩
              -- ok}
            case rest=>
              obtain⟨v6,Xh,hC6⟩:=hcut
              have sD:=qqh Xh
              have aeT:al<200:=by have:=HM.out;omega
              clear Xh r4
              go_wp2_with fail
              refine(qD.out _ j2 sD.out.cur).mono ?_
              rintro e w7 ⟨rfl,qW,fG⟩
              have ux:=qqh (sD.out.step qW fG)
              have hC7:C+1≤w7.heap.size:=Nat.le_trans hC6 fG.1
              clear qW fG
              obtain⟨b,hb⟩:∃ b,ax L j2=b:=⟨_,rfl⟩
              have HB:=qqh hb
              rw [hb]at ux
              clear hb
              have Qw:=qqh (Ja.out _ b 59 ux.out.cur (by decide))
              cases hnd:aQ L b 59 with
              | error e0=>
                obtain⟨x,q⟩:=e0
                have HE:=qqh (eU.out.trans (Ez (by rw [HA.out];have:=HNG.out;omega) (by rw [FC];exact HM.out) (by rw [HA.out];exact HP.out) (by rw [HB.out];exact hnd)))
                have mh:=qqh (kN.out x q HE.out)
                have hx:=HXN.out x q HE.out
                rw [hnd]at Qw
                clear hnd
                go_wp2_with fail
                refine Qw.out.mono ?_
                rintro e w8 ⟨he,gP⟩
                unfold aS at he
                subst he
                have hr8:=(gP.2.2.2.2 _ ux.out.res.lt (by omega)).trans ux.out.res
                have Yh:=(gP.2.2.2.2 _ ux.out.flt.lt (by omega)).trans ux.out.flt
                have HR8:=qqh hr8
                have ya:=qqh Yh
                have qM:=qqh (ux.out.below.trans (gP.to ux.out.below.size (by omega)))
                clear gP hr8 Yh
                go_wp2_with fail
                refine gJ _ (w.heap.size+1) w.heap.size w.heap.size x q 0 0 _ _ _ _ _ rfl rfl ya.out HR8.out (by omega) (by omega) qql qM.out.size hx (fun W2 aX=>?_)
                rw [mh.out]
                exact⟨⟨none,0,0,rfl,gQ.nil _ _,qql⟩,qM.out.trans aX⟩
              | ok k=>
                have fF:=qqh (eU.out.trans (Ft (by rw [HA.out];have:=HNG.out;omega) (by rw [FC];exact HM.out) (by rw [HA.out];exact HP.out) (by rw [HB.out];exact hnd)))
                have HKB:=qqh (show k=b+1 from(fH hnd).1)
                have qB:=qqh (Lk HV.out.ok (by rw [Pt.out];exact han) HP.out)
                rw [hnd]at Qw
                clear hnd
                go_wp2_with fail
                refine Qw.out.mono ?_
                rintro e w8 ⟨rfl,GG,gP⟩
                have ya:=qqh (ux.out.step GG gP)
                have hC8:C+1≤w8.heap.size:=Nat.le_trans hC7 gP.1
                clear GG gP
                go_wp2_with fail
                refine(qD.out _ k ya.out.cur).mono ?_
                rintro e w9 ⟨rfl,MS,cN⟩
                have oE:=qqh (ya.out.step MS cN)
                have hC9:C+1≤w9.heap.size:=Nat.le_trans hC8 cN.1
                clear MS cN
                go_wp2_with fail
                have hge:a≤b:=by have h1:=qB.out.1;have h2:=de L j2;rw [HB.out]at h2;omega
                have hkb:=HKB.out
                have hkn:=ya.out.cur.le
                refine⟨⟨f,k,acc++[p],v6,hkn,by omega,fF.out,by rw [List.length_append,FC];simp;omega,oE.out,hC9⟩,?_⟩
                have e1:w9.cell? ⟨C,1,none⟩=some (.int .i64 ((ax L k:Nat):Int)):=oE.out.cur.blk.cell 1
                have e2:=mC.out
                have hle:=oE.out.cur.le
                have ahI:=de L k
                rw [e1,e2]
                simp only [Int.toNat_natCast,List.getElem?_toArray,List.getElem?_cons_succ,List.getElem?_cons_zero]
                omega
def BK (w:World) (A:Option Addr) (n:Nat):Prop:=∃ l:List aB,ck (bC w (fun _=>True)) w (fun _=>True) 7 A n l∧n≤maxLen
theorem BK.below {w w':World} {A:Option Addr} {n:Nat} (hb:Below w.heap.size w w') (h:BK w A n):BK w' A n:=by
 obtain⟨l,h1,h2⟩:=h;exact⟨l,h1.keep (ag.any hb) (fun _ _=>bC.keep (ag.any hb)),h2⟩
theorem E8 {w:World} {X:Nat→Prop} {s:bS} {cs:List Value} (h:ia w X s cs):∃ A1 n1 c1 A2 n2 c2,cs = [.bool s.only?,.slice A1 n1 c1,.slice A2 n2 c2]∧iS w X s A1 n1 A2 n2:=by
 obtain⟨u,v,rfl,⟨A1,n1,c1,rfl,q1,q2⟩,⟨A2,n2,c2,rfl,q3,q4⟩⟩:=h;exact⟨A1,n1,c1,A2,n2,c2,rfl,q1,q3,q2,q4⟩
theorem IX {w:World} {X:Nat→Prop} {s:bS} {A1 A2:Option Addr} {n1 c1 n2 c2:Nat} (h:ia w X s [.bool s.only?,.slice A1 n1 c1,.slice A2 n2 c2]):iS w X s A1 n1 A2 n2:=by
 obtain⟨_,_,he,⟨_,_,_,rfl,q1,q2⟩,⟨_,_,_,rfl,q3,q4⟩⟩:=h;injection he with _ he;injection he with e1 he;injection he with e2 _;cases e1;cases e2;exact⟨q1,q3,q2,q4⟩
def Fe:ByteArray:=⟨#[36,118,32,61,32,91,97,45,99,93,59,10,36,118,32,125,32,120,32,62,32,121,32,59,10,58,58,32,117,112,112,101,114,32,59,10]⟩
def Ll:ByteArray:=⟨#[97,120,98,195,169]⟩
noncomputable def vX:List aG:=(jJ (aR Fe 0)).1
noncomputable def ic:bS:=(dQ false vX).1
theorem Lh:(jJ (aR Fe 0)).2=(0,0):=by kernel_rfl
theorem PW:vX.length=3:=by kernel_rfl
theorem MV:(dQ false vX).2=(0,0):=by kernel_rfl
theorem Pc:aR Ll 0 = [97,120,98,233]:=by kernel_rfl
theorem NS:Rt ic [97,120,98,233] =([89,88,66,201],(0,0)):=by kernel_rfl
theorem Lc:runesBytes [89,88,66,201] =⟨#[89,88,66,195,137]⟩:=by decide +kernel
theorem Jy (w:World) :
    Calls Tryz.prog 5 #[] w fun e w'=>e=.returned (.bool true)∧Below w.heap.size w w':=by
 have pJ:=qqh (show Calls Tryz.prog 13 #[.string ⟨#[36,118,32,61,32,91,97,45,99,93,59,10,36,118,32,125,32,120,32,62,32,121,32,59,10,58,58,32,117,112,112,101,114,32,59,10]⟩] w fun e w'=>(∃ A n c,e=.returned (.tuple #[.slice A n c,.agg #[.int .i64 0,.int .i64 0]])∧gQ w' (fun b=>w.heap.size≤b) A n vX∧n≤c)∧Below w.heap.size w w' by
  have h:=Gh Fe w (by decide);unfold zo at h;rw [Lh]at h;exact h)
 have Uk:=qqh (fun(W:World)=>show Calls Tryz.prog 6 #[.string ⟨#[97,120,98,195,169]⟩] W fun e w'=>∃ v,e=.returned v∧qo w' W.heap.size v [97,120,98,233]∧Below W.heap.size W w' by
  have h:=qx Ll W (by decide);unfold z8 at h;rw [Pc]at h;exact h)
 go_enter Tryz.func5,Tryz.ntmps5;go_wp2_with fail;refine pJ.out.mono ?_;rintro e w1 ⟨⟨A,n,c,rfl,hx,_⟩,aT⟩;have hba:=(Below.refl w1.heap.size w1).alloc qql (.cells #[.int .i64 0,.int .i64 0] 38);have bJ:=qqh (aT.trans (hba.mono aT.size));have fY:=qqh (aj.new w1 38 #[.int .i64 0,.int .i64 0]);have HN:=qqh (show n≤maxLen by have:=hx.len;rw [PW]at this;simp only [maxLen];omega);have EX:=qqh (G8.weak (gC hba hba.size) hx.rd);clear aT hx hba pJ;go_wp2_with fail;refine(Jz _ A n c vX _ HN.out qql EX.out).mono ?_;rintro e w2 ⟨⟨cs,_,he,hcs⟩,aX⟩;rw [MV]at he;subst he;change ia _ _ ic _ at hcs;obtain⟨A1,n1,c1,A2,n2,c2,rfl,_⟩:=E8 hcs;have hbc:=((Below.refl w2.heap.size w2).alloc qql (.cells #[.bool ic.only?,.slice A1 n1 c1,.slice A2 n2 c2] 47)).alloc (by simp) (.cells #[.int .i64 0,.int .i64 0] 38);have bL:=qqh ((bJ.out.trans (aX.mono bJ.out.size)).trans (hbc.mono (bJ.out.trans (aX.mono bJ.out.size)).size));have jS:=qqh ((aj.new w2 47 #[.bool ic.only?,.slice A1 n1 c1,.slice A2 n2 c2]).alloc (.cells #[.int .i64 0,.int .i64 0] 38));have kY:=qqh (show aj ((w2.alloc (.cells #[.bool ic.only?,.slice A1 n1 c1,.slice A2 n2 c2] 47)).alloc (.cells #[.int .i64 0,.int .i64 0] 38)) (w2.heap.size+1) 38 #[.int .i64 0,.int .i64 0] by simpa using aj.new (w2.alloc (.cells #[.bool ic.only?,.slice A1 n1 c1,.slice A2 n2 c2] 47)) 38 #[.int .i64 0,.int .i64 0])
 have fo:=qqh (aj.below (aj.below fY.out aX fY.out.lt) hbc (aj.below fY.out aX fY.out.lt).lt);have ox:=qqh (IX (hcs.keep (ag.below hbc (X':=fun _=>True) (fun _ _ _=>trivial))));clear aX hcs hbc bJ fY EX;go_upto_region 3 with fail;generalize (w2.alloc (.cells #[.bool ic.only?,.slice A1 n1 c1,.slice A2 n2 c2] 47)).alloc (.cells #[.int .i64 0,.int .i64 0] 38)=W2 at *;have s0:W2.cell? ⟨w2.heap.size,0,none⟩=some (.bool ic.only?):=jS.out.cell 0;have s1:W2.cell? ⟨w2.heap.size,1,none⟩=some (.slice A1 n1 c1):=jS.out.cell 1;have s2:W2.cell? ⟨w2.heap.size,2,none⟩=some (.slice A2 n2 c2):=jS.out.cell 2
 have HC:=qqh (fun(W:World) (hb:Below W2.heap.size W2 W)=>show W.cell? ⟨w2.heap.size,0,none⟩=some (.bool ic.only?)∧W.cell? ⟨w2.heap.size,1,none⟩=some (.slice A1 n1 c1)∧W.cell? ⟨w2.heap.size,2,none⟩=some (.slice A2 n2 c2) from
   ⟨(aj.below jS.out hb jS.out.lt).cell 0,(aj.below jS.out hb jS.out.lt).cell 1,(aj.below jS.out hb jS.out.lt).cell 2⟩)
 have eU:=qqh (fun(W:World) (hb:Below W2.heap.size W2 W) (At:Option Addr) (ct:Nat) (hct:4≤ct) (ht:nK W W.heap.size At 4 [97,120,98,233])=>show Calls Tryz.prog 15 #[.agg #[.bool ic.only?,.slice A1 n1 c1,.slice A2 n2 c2],.slice At 4 ct] W fun e w'=>EH W.heap.size w' ([89,88,66,201],(0,0)) e∧Below W.heap.size W w' by
  have h:=Nx (fun _=>True) ic [97,120,98,233] A1 A2 At n1 c1 n2 c2 4 ct W (ox.out.keep (ag.below hb (fun _ _ _=>trivial))) hct (by decide) ht;rwa [NS]at h)
 unfold EH at eU;go_cut [5,6] (fun Xa XM wx=>∃ (A:Option Addr) (n c G:Nat),Xa=.slice A n c∧XM=.pointer (some ⟨G,0,none⟩)∧nK wx wx.heap.size A n [89,88,66,201]∧aj wx G 38 #[.int .i64 0,.int .i64 0]∧Below W2.heap.size W2 wx);case first=>
  refine ay (S:=fun w'=>w'.cell? ⟨w2.heap.size,0,none⟩=some (.bool ic.only?)∧w'.cell? ⟨w2.heap.size,1,none⟩=some (.slice A1 n1 c1)∧w'.cell? ⟨w2.heap.size,2,none⟩=some (.slice A2 n2 c2)) [0] (by kernel_rfl) ⟨s0,s1,s2⟩ (fun aU=>?_);refine tu 0 17 ?_;(try simp only [zp,za,z0,zs]);refine eM (i:=1) (j:=6) (o:=⟨some 18,_,_,_,_,_⟩) (o2:=⟨some 6,_,_,_,_,_⟩) (by kernel_rfl) rfl rfl (fun K hK=>?_) (fun K hK=>?_)
  ·go_simp;go_at_call 6;refine(Uk.out W2.drew).mono ?_;rintro e va ⟨ua,rfl,RT,hda⟩;obtain⟨Da,ka,rfl,hka⟩:=aJ RT;have Dp:=qqh (show Below W2.heap.size W2 va from(aE (Below.refl W2.heap.size W2)).trans (hda.mono (aE (Below.refl W2.heap.size W2)).size));have Tg:=qqh (Rd.cC RT);clear RT hda;(try dsimp only);refine hK.out _ _ ?_ (fun aU=>?_);exact HC.out _ Dp.out;clear hK K;(try simp only [zp,za,z0,zs]);refine eM (i:=2) (j:=6) (o:=⟨some 19,_,_,_,_,_⟩) (o2:=⟨some 6,_,_,_,_,_⟩) (by kernel_rfl) rfl rfl (fun K hK=>?_) (fun K hK=>?_)
   ·go_simp;go_at_call 15;refine(eU.out va Dp.out Da ka hka Tg.out).mono ?_;rintro e ga ⟨⟨Ba,ma,qa,rfl,rU⟩,hba⟩;have Nc:=qqh (show Below W2.heap.size W2 ga from(Dp.out).trans (hba.mono (Dp.out).size));have Wq:=qqh rU.of;clear rU hba;(try dsimp only);refine hK.out _ _ ?_ (fun aU=>?_);exact HC.out _ Nc.out;clear hK K;(try simp only [zp,za,z0,zs]);refine tq 3 16 ?_;(try simp only [zp,za,z0,zs]);refine tq 4 20 ?_;(try simp only [zp,za,z0,zs]);refine tq 5 21 ?_;(try simp only [zp,za,z0,zs]);refine aD (i:=6) (o:=⟨some 6,_,_,_,_,_⟩) (by kernel_rfl) rfl (fun K hK=>?_);go_simp;(try dsimp only);refine hK.out _ _ ?_ (fun aU=>?_);exact HC.out _ (Nc.out.alloc Nc.out.size _);clear hK K;(try simp only [zp,za,z0,zs]);refine tq 7 5 ?_;(try simp only [zp,za,z0,zs]);refine aC (i:=8) (by kernel_rfl) rfl (by kernel_rfl) (fun K hK=>?_);go_simp;(try dsimp only);refine hK.out _ _ ?_;clear hK K;refine aK (by kernel_rfl) ?_ _;go_simp;go_wp2_with fail;go_meet;exact⟨Ba,ma,qa,ga.heap.size,rfl,rfl,Wq.out.below (qqb.alloc qql _) |>.more (by simp),aj.new _ _ _,Nc.out.alloc Nc.out.size _⟩
   go_simp;(try dsimp only);refine hK.out _ _ ?_ (fun aU=>?_);exact HC.out _ (Dp.out.alloc Dp.out.size _);clear hK K;(try simp only [zp,za,z0,zs]);refine aD (i:=2) (o:=⟨some 19,_,_,_,_,_⟩) (by kernel_rfl) rfl (fun K hK=>?_);have Xk:=qqh (aj.new va 38 #[.int .i64 0,.int .i64 0]);go_simp;go_at_call 15;refine(eU.out (va.alloc (.cells #[.int .i64 0,.int .i64 0] 38)) (Dp.out.alloc Dp.out.size _) Da ka hka (Tg.out.below (qqb.alloc qql _) |>.more (by simp))).mono ?_;rintro e ga ⟨⟨Ba,ma,qa,rfl,rU⟩,hba⟩;have Nc:=qqh (show Below W2.heap.size W2 ga from((Dp.out.alloc Dp.out.size _)).trans (hba.mono ((Dp.out.alloc Dp.out.size _)).size));have Wq:=qqh rU.of;have Eu:=qqh (Xk.out.below hba Xk.out.lt);clear rU hba;(try dsimp only);refine hK.out _ _ ?_ (fun aU=>?_);exact HC.out _ Nc.out;clear hK K;(try simp only [zp,za,z0,zs]);refine tq 3 16 ?_;(try simp only [zp,za,z0,zs]);refine tq 4 20 ?_;(try simp only [zp,za,z0,zs]);refine tq 5 21 ?_;(try simp only [zp,za,z0,zs]);refine tq 7 5 ?_;(try simp only [zp,za,z0,zs]);refine aC (i:=8) (by kernel_rfl) rfl (by kernel_rfl) (fun K hK=>?_);have z0:=Eu.out.frozen 0;have z1:=(Eu.out.put 0 (.int .i64 0)).frozen 1;have z2:=Eu.out.cell 0;have z3:=(Eu.out.put 0 (.int .i64 0)).cell 1;go_simp;(try dsimp only);refine hK.out _ _ ?_;clear hK K;refine aK (by kernel_rfl) ?_ _;go_simp;go_wp2_with fail;go_meet;rw [rF Eu.out rfl,rF Eu.out rfl];exact⟨Ba,ma,qa,va.heap.size,rfl,rfl,Wq.out,Eu.out,Nc.out⟩
  go_simp;(try dsimp only);refine hK.out _ _ ?_ (fun aU=>?_);exact HC.out _ ((aE (Below.refl W2.heap.size W2)).alloc qql _);clear hK K;(try simp only [zp,za,z0,zs]);refine aD (i:=1) (o:=⟨some 18,_,_,_,_,_⟩) (by kernel_rfl) rfl (fun K hK=>?_);go_simp;go_at_call 6;refine(Uk.out (W2.drew.alloc (.cells #[.int .i64 0,.int .i64 0] 38))).mono ?_;rintro e va ⟨ua,rfl,RT,hda⟩;obtain⟨Da,ka,rfl,hka⟩:=aJ RT;have Dp:=qqh (show Below W2.heap.size W2 va from((aE (Below.refl W2.heap.size W2)).alloc qql _).trans (hda.mono ((aE (Below.refl W2.heap.size W2)).alloc qql _).size));have Tg:=qqh (Rd.cC RT);have Xk:=qqh (show aj va W2.heap.size 38 #[.int .i64 0,.int .i64 0] from(aj.new W2.drew 38 #[.int .i64 0,.int .i64 0]).below hda (aj.new W2.drew 38 #[.int .i64 0,.int .i64 0]).lt);clear RT hda;(try dsimp only);refine hK.out _ _ ?_ (fun aU=>?_);exact HC.out _ Dp.out;clear hK K;(try simp only [zp,za,z0,zs]);refine aD (i:=2) (o:=⟨some 19,_,_,_,_,_⟩) (by kernel_rfl) rfl (fun K hK=>?_);go_simp;go_at_call 15;refine(eU.out va Dp.out Da ka hka Tg.out).mono ?_;rintro e ga ⟨⟨Ba,ma,qa,rfl,rU⟩,hba⟩;have Nc:=qqh (show Below W2.heap.size W2 ga from(Dp.out).trans (hba.mono (Dp.out).size));have Wq:=qqh rU.of;have Eu:=qqh (Xk.out.below hba Xk.out.lt);clear rU hba;(try dsimp only);refine hK.out _ _ ?_ (fun aU=>?_);exact HC.out _ Nc.out;clear hK K;(try simp only [zp,za,z0,zs]);refine tq 3 16 ?_;(try simp only [zp,za,z0,zs]);refine tq 4 20 ?_;(try simp only [zp,za,z0,zs]);refine tq 5 21 ?_;(try simp only [zp,za,z0,zs]);refine tq 7 5 ?_;(try simp only [zp,za,z0,zs])
  refine aC (i:=8) (by kernel_rfl) rfl (by kernel_rfl) (fun K hK=>?_);have z0:=Eu.out.frozen 0;have z1:=(Eu.out.put 0 (.int .i64 0)).frozen 1;have z2:=Eu.out.cell 0;have z3:=(Eu.out.put 0 (.int .i64 0)).cell 1;go_simp;(try dsimp only);refine hK.out _ _ ?_;clear hK K;refine aK (by kernel_rfl) ?_ _;go_simp;go_wp2_with fail;go_meet;rw [rF Eu.out rfl,rF Eu.out rfl];exact⟨Ba,ma,qa,W2.heap.size,rfl,rfl,Wq.out,Eu.out,Nc.out⟩
 obtain⟨D,m,d,G,rfl,rfl,hrd,Pj,hbc⟩:=hcut;have hm:m=4:=hrd.len.symm;subst hm;obtain⟨b,off,rfl,fq,xU⟩:=hrd.2 (by decide);have sZ:(convert 24 9 (.slice (some ⟨b,off,none⟩) 4 d)).run Tryz.prog wc=.ok (.string ⟨#[89,88,66,195,137]⟩) wc:=by
  rw [run_convert_runes (P:=Tryz.prog) wc 24 9 21 ⟨b,off,none⟩ 4 d [89,88,66,201] (by simp) Tryz.underlying24 Tryz.underlying21 Tryz.underlying9 ?_]
  ·rw [show([89,88,66,201]:List Int).take 4 = [89,88,66,201] from rfl,Lc]
  intro j hj;rw [gz];refine xU j _ ?_;rw [dU,List.getElem?_eq_getElem hj,List.getD_eq_getElem?_getD,List.getElem?_eq_getElem hj];rfl
 have T':=qqh (bL.out.trans (hbc.mono bL.out.size));have g0:=Pj.cell 0;have g1:=(aj.below fo.out hbc fo.out.lt).cell 0;have g2:=(aj.below kY.out hbc kY.out.lt).cell 0;clear hrd Pj hbc xU s0 s1 s2 HC eU ox jS kY fo Uk;go_wp2_with fail;go_ret;exact⟨rfl,T'.out⟩
theorem sx:(List.range 1120).all (fun k=>bE (xT (k:Int)) && bE (iM (k:Int)))=true:=by decide +kernel
theorem wQ {r:Int} (h:bE r=true):bE (xT r)=true∧bE (iM r)=true:=by
 by_cases hr:0≤r∧r≤1119
 ·have h1:=List.all_eq_true.1 sx r.toNat (List.mem_range.2 (by omega));rw [show((r.toNat:Nat):Int)=r by omega,Bool.and_eq_true]at h1;exact h1
 have hb:∀ x∈kW,0≤x.1∧x.2.1≤1119∧0≤x.2.2∧0≤x.1 - x.2.2:=by
  intro x hx;have:=List.all_eq_true.1 GA x hx;simp only [Bool.and_eq_true,decide_eq_true_eq]at this;omega
 have h1:xT r=r:=BV _ _ fun x hx=>(by have:=hb x hx;omega);have h2:iM r=r:=zf _ _ fun x hx=>(by have:=hb x hx;omega);rw [h1,h2];exact⟨h,h⟩
theorem CQ (h:Int→Bool):∀ (t:List Int) (p:Bool),(∀ r∈t,bE r=true)→∀ r∈Eo h p t,bE r=true:=by
 intro t;induction t with
 | nil=>intro p _ r hr;cases hr
 | cons x t ih=>
  intro p ht r hr;rw [Eo]at hr;rcases List.mem_cons.1 hr with rfl | hr
  ·have hx:=ht x (by simp);split
   ·split;exact(wQ hx).2;exact(wQ hx).1
   exact hx
  exact ih _ (fun y hy=>ht y (by simp [hy])) r hr
theorem IN {t:List Int} (h4:t.length≤4000) (h:∀ x∈t,bE x=true):cm t=0:=by
 unfold cm;rw [if_neg (by omega),if_neg];unfold cI;intro h2;obtain⟨x,hx,h3⟩:=List.any_eq_true.1 h2;rw [h x hx]at h3;cases h3
theorem zW {t:List Int} (h:cm t=0):dI t=if 4000<(t.flatMap (ew 2)).length then ([],4)else (kA t,0):=by
 unfold dI;rw [if_neg (fun q=>q h)]
theorem FG (s:aa) (t:List Int) (h:(iG s t).2=0):(dI (iG s t).1).2=(dI t).2∧cn (dI (iG s t).1).1=cn (dI t).1∧ei (dI (iG s t).1).1=ei (dI t).1:=by
 have hs:(gR s t).2=0:=by
  unfold iG at h;by_cases q:(gR s t).2≠0
  ·rw [if_pos q]at h;exact absurd h q
  exact Decidable.not_not.1 q
 have hz:cm t=0:=by
  unfold gR at hs;by_cases h1:bA s≠0
  ·rw [if_pos h1]at hs;exact absurd hs h1
  rw [if_neg h1]at hs;by_cases h2:cm t≠0
  ·rw [if_pos h2]at hs;exact absurd hs h2
  exact Decidable.not_not.1 h2
 have hu:(iG s t).1=Eo (aO s) false t:=(by unfold iG;rw [if_neg (fun q=>q hs)]);rw [hu];have hzu:cm (Eo (aO s) false t)=0:=IN (by rw [qb];exact vQ hz) (CQ _ _ _ (zi hz));have ha:=DQ (aO s) t false;rw [zW hzu,zW hz,sQ ha];split;exact⟨rfl,rfl,rfl⟩;exact⟨rfl,EF (DG ha)⟩
theorem qH (l:List Int) (A1 A2:Option Addr) (n c1 c2:Nat) (w:World) (h1:xZ w w.heap.size A1 n l) (h2:xZ w w.heap.size A2 n l) (hn:n≤100000) :
    Calls Tryz.prog 9 #[.slice A1 n c1,.slice A2 n c2] w fun e w'=>e=.returned (.bool true)∧Below w.heap.size w w':=by
 have HL:=qqh h1.len;have H1:=qqh h1;have H2:=qqh h2;clear h1 h2;go_enter Tryz.func9,Tryz.ntmps9;go_wp2_with fail;go_loopw [13] (fun i wr=>∃ k:Nat,k≤n∧i=.int .i64 k∧Below w.heap.size w wr) (fun i _=>n - (intOf i).toNat);(case atStart=>exact⟨0,Nat.zero_le _,rfl,qqb⟩);obtain⟨k,hk,rfl,hb⟩:=hrel;have HB:=qqh hb;by_cases hlt:k<n
 ·obtain⟨x,hx⟩:∃ x,l[k]? = some x:=⟨_,List.getElem?_eq_getElem (by rw [HL.out];exact hlt)⟩;obtain⟨b1,o1,rfl,_,d1⟩:=xZ.at (Rd.below H1.out hb) hx;obtain⟨b2,o2,rfl,_,d2⟩:=xZ.at (Rd.below H2.out hb) hx;have k0:(0:Int)≤(k:Int):=(by omega);have k1:(k:Int)<(n:Int):=(by omega);clear hx hb;go_wp2_with fail;go_quiet (fail);go_wp2_with fail;exact⟨⟨k+1,by omega,by go_num,below_drewN HB.out nq⟩,by simp [intOf];omega⟩
 obtain rfl:k=n:=(by omega);clear hb;go_wp2_with fail;go_ret;exact⟨rfl,HB.out⟩
theorem FD {l:List Int} (h:l.length≤4000):(cn l).length≤100000∧(ei l).length≤100000 :=
  ⟨Nat.le_trans (mF (fun r=>by split <;> simp) l) (by omega),Nat.le_trans (mF (fun r=>by split <;> simp) l) (by omega)⟩
theorem J8 (A0:Option Addr) (n0 c0:Nat) (s:aa) (text:ByteArray) (w:World) (ht:text.size≤1099511627776) (hn0:n0≤9223372036854775807) (hs:kM w w.heap.size A0 n0 s) :
    Calls Tryz.prog 3 #[.slice A0 n0 c0,.string text] w fun e w'=>e=.returned (.bool true)∧Below w.heap.size w w':=by
 have Z4:=nN text;have Uk:=qqh (fun(W:World)=>qx text W ht);unfold z8 at Uk;have HS:=qqh (fun(W:World) (hb:Below w.heap.size w W)=>show kM W W.heap.size A0 n0 s from(Rd.below hs hb).more hb.size);clear hs;generalize aR text 0=T at *;have hT:T.length≤1099511627776:=(by omega);clear Z4;have QB:=qqh (FG s T);have td:=qqh (FD (vJ T));have Rz:=qqh (fun(At:Option Addr) (nt ct:Nat) (W:World) (hs:kM W W.heap.size A0 n0 s) (hnt:nt≤maxLen) (h:nK W W.heap.size At nt T)=>CN A0 At n0 c0 nt ct s T W hn0 hs hnt h);have Hj:=qqh (show(iG s T).2=0→(iG s T).1.length≤T.length by
  intro h;unfold iG;split;exact Nat.zero_le _;rw [qb];exact qql)
 unfold xK at Rz;generalize hTP:iG s T=TP at *;obtain⟨u,f⟩:=TP;dsimp only at QB Rz Hj;go_enter Tryz.func3,Tryz.ntmps3;go_wp2_with fail;refine(Jy w).mono ?_;rintro e w1 ⟨rfl,aT⟩;have bJ:=qqh aT;clear aT;go_wp2_with fail;refine(Uk.out w1).mono ?_;rintro e w2 ⟨v,rfl,hv,aX⟩;obtain⟨A,c,rfl,_⟩:=aJ hv;have bL:=qqh (bJ.out.trans (aX.mono bJ.out.size));have dP:=qqh (Rd.cC hv);clear aX hv;generalize hN:T.length=N at *;go_wp2_with fail;refine(Rz.out A N c w2 (HS.out w2 bL.out) (by simp only [maxLen];omega) dP.out).mono ?_;rintro e w3 ⟨⟨A3,n3,c3,rfl,lJ⟩,bP⟩;have bM:=qqh (bL.out.trans (bP.mono bL.out.size));have xm:=qqh (show nK w3 w3.heap.size A N T from(Rd.below dP.out bP).more bP.size);have X7:=qqh (show nK w3 w3.heap.size A3 n3 u from lJ.of);clear bP lJ;by_cases hf:f=0
 ·subst hf;have uB:=qqh (QB.out rfl);have RM:n3≤1099511627776:=(by have:=X7.out.len;have:=Hj.out rfl;omega);clear hTP;go_wp2_with fail;refine(zK T A N c w3 (by simp only [maxLen];omega) xm.out).mono ?_;rintro e w4 ⟨⟨B1,B2,m1,d1,m2,d2,v3,rfl,mJ,OF⟩,hb4⟩;have dS:=qqh (bM.out.trans (hb4.mono bM.out.size));have abF:=qqh (show nK w4 w4.heap.size A3 n3 u from(Rd.below X7.out hb4).more hb4.size);have Ht:=qqh mJ;have E6:=qqh OF;clear hb4 mJ OF;go_wp2_with fail;refine(zK u A3 n3 c3 w4 (by simp only [maxLen];omega) abF.out).mono ?_;rintro e w5 ⟨⟨D1,D2,k1,q1,k2,q2,v5,rfl,jc,hm2⟩,dN⟩;rw [uB.out.1];rw [uB.out.2.1]at jc;rw [uB.out.2.2]at hm2;have dG:=qqh (dS.out.trans (dN.mono dS.out.size));have R6:=qqh (show xZ w5 w5.heap.size B1 m1 (cn (dI T).1) from(Rd.below Ht.out dN).more dN.size);have TE:=qqh (show xZ w5 w5.heap.size B2 m2 (ei (dI T).1) from(Rd.below E6.out dN).more dN.size);have Lu:=qqh jc;have Ol:=qqh hm2;obtain rfl:m1=k1:=(by rw [← R6.out.len,← Lu.out.len]);obtain rfl:m2=k2:=(by rw [← TE.out.len,← Ol.out.len]);have hs1:m1≤100000:=(by rw [← R6.out.len];exact td.out.1);have uL:m2≤100000:=(by rw [← TE.out.len];exact td.out.2);clear dN jc hm2;generalize (dI T).2=er at *;go_wp2_with fail;refine(qH _ B1 D1 m1 d1 q1 w5 R6.out Lu.out hs1).mono ?_;rintro e w6 ⟨rfl,eG⟩;have gT:=qqh (dG.out.trans (eG.mono dG.out.size));have Kb:=qqh (show xZ w6 w6.heap.size B2 m2 (ei (dI T).1) from(Rd.below TE.out eG).more eG.size);have Rb:=qqh (show xZ w6 w6.heap.size D2 m2 (ei (dI T).1) from(Rd.below Ol.out eG).more eG.size);clear eG;go_wp2_with fail;refine(qH _ B2 D2 m2 d2 q2 w6 Kb.out Rb.out uL).mono ?_;rintro e w7 ⟨rfl,fG⟩;have kR:=qqh (gT.out.trans (fG.mono gT.out.size))
  clear fG;go_wp2_with fail;go_ret;exact⟨rfl,kR.out⟩
 have hff:(f == 0)=false:=(by rw [beq_eq_false_iff_ne];exact hf);clear hf hTP;go_wp2_with fail;go_ret;exact⟨rfl,bM.out⟩
end Go.Proofs.YtblinekbpcdbfaaGreatDoor
