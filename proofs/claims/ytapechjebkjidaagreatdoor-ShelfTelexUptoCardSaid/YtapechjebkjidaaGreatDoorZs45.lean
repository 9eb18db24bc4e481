/- RdFile + ShRead + ShLaw -/
import Derived.Test.YtapechjebkjidaaGreatDoorZs44
import Derived.Deep.CutRange
import Derived.Test.YtapechjebkjidaaGreatDoorZs38
import Derived.Test.YtapechjebkjidaaGreatDoorZs27
import Derived.Test.YtapechjebkjidaaGreatDoorZs9
set_option maxHeartbeats 12800000
set_option maxRecDepth 100000
namespace Go.Proofs.YtapechjebkjidaaGreatDoor
open Go.RowKit
theorem KO {L:List Int} {f i:Nat} {l:List aI} (h:pk L (az L i)<0):iK L (f+1) i l=.ok l:=by rw [iK,if_pos h]
theorem Gf {L:List Int} {f i:Nat} {l:List aI} (h:¬ pk L (az L i)<0) (h2:l.length=200):iK L (f+1) i l=.error (5,az L i):=by rw [iK,if_neg h,if_pos h2]
theorem GJ {L:List Int} {f i:Nat} {l:List aI} {e:Int × Nat} (h:¬ pk L (az L i)<0) (h2:¬ l.length=200) (h3:j4 L (az L i)=.error e):iK L (f+1) i l=.error e:=by rw [iK,if_neg h,if_neg h2,h3]
theorem Hp {L:List Int} {f i j:Nat} {l:List aI} {p:aI} {e:Int × Nat} (h:¬ pk L (az L i)<0) (h2:¬ l.length=200) (h3:j4 L (az L i)=.ok (p,j)) (h4:aU L (az L j) 59=.error e):iK L (f+1) i l=.error e:=by rw [iK,if_neg h,if_neg h2,h3];simp only;rw [h4]
theorem GX {L:List Int} {f i j k:Nat} {l:List aI} {p:aI} (h:¬ pk L (az L i)<0) (h2:¬ l.length=200) (h3:j4 L (az L i)=.ok (p,j)) (h4:aU L (az L j) 59=.ok k):iK L (f+1) i l=iK L f k (l++[p]):=by rw [iK,if_neg h,if_neg h2,h3];simp only;rw [h4]
theorem oF {w:World} {X:Nat→Prop} {p:aI} {cs:List Value} (h:eF w X p cs):∃ v0 v1 v2 v3 v4 v5 v6 v7 v8 v9 v10 v11 v12 wj wD vY,cs = [v0,v1,v2,v3,v4,v5,v6,v7,v8,v9,v10,v11,v12,wj,wD,vY]:=by
 obtain⟨A',n',c',L1,a1,x1,L2,a2,x2,L3,a3,x3,R1,b1,y1,R2,b2,y2,R3,b3,y3,rfl⟩:=h.form;exact⟨_,_,_,_,_,_,_,_,_,_,_,_,_,_,_,_,rfl⟩
theorem Gn (s:ByteArray) (w:World) (hs:s.size≤1099511627776) :
    Calls Tryz.prog 40 #[.string s] w (AL w (ia (ay s 0))):=by
  obtain⟨i0,Lt,u0,z1,z2⟩:=info_parts Jq
  have UE:∀ (fn:Fn) (first cap:Array Value) (w:World),(Instr.makeFunc fn first cap).run Tryz.prog w=.ok (.func fn first cap) w:=fun _ _ _ _=>rfl
  have HD:=Lib.hid (fun(W:World)=>show Calls Tryz.prog 36 #[.string s] W fun e w'=>∃ v,e=.returned v∧gN w' W.heap.size v (ay s 0)∧Below W.heap.size W w' from qu s W hs)
  have HV:=Lib.hid (show gL (ay s 0) from zD s)
  have hLs:(ay s 0).length≤s.size:=by
    unfold ay
    rw [List.length_map]
    have:=nJ s s.size 0 (by omega)
    omega
  generalize ay s 0=L at *
  have ek:=Lib.hid (show Below w.heap.size w ((w.alloc (.cells #[.slice none 0 0] 57)).alloc (.cells #[.int .i64 0,.int .i64 0] 51)) from((Below.refl _ _).alloc (Nat.le_refl _) _).alloc (by simp) _)
  have fI:=Lib.hid (show ak ((w.alloc (.cells #[.slice none 0 0] 57)).alloc (.cells #[.int .i64 0,.int .i64 0] 51)) w.heap.size 57 #[.slice none 0 0] from(ak.new w _ _).alloc _)
  have td:=Lib.hid (show ak ((w.alloc (.cells #[.slice none 0 0] 57)).alloc (.cells #[.int .i64 0,.int .i64 0] 51)) (w.heap.size+1) 51 #[.int .i64 0,.int .i64 0] from by
    have:=ak.new (w.alloc (.cells #[.slice none 0 0] 57)) 51 #[.int .i64 0,.int .i64 0]
    simpa using this)
  have Yb:=Lib.hid (show w.heap.size+2≤((w.alloc (.cells #[.slice none 0 0] 57)).alloc (.cells #[.int .i64 0,.int .i64 0] 51)).heap.size by simp)
  go_enter_defers Tryz.func40,Tryz.ntmps40
  go_wp2_with fail
  refine(HD.out _).mono ?_
  rintro e w1 ⟨v,rfl,ho,hb⟩
  have bT:=Lib.hid (ek.out.trans (hb.mono ek.out.size))
  have i6:=Lib.hid (fI.out.below hb fI.out.lt)
  have iJ:=Lib.hid (td.out.below hb td.out.lt)
  have rj:w.heap.size+2≤w1.heap.size:=Nat.le_trans Yb.out hb.size
  obtain⟨n,hn⟩:∃ n,L.length=n:=⟨_,rfl⟩
  unfold gN at ho
  rw [hn]at ho
  have abb:n≤4611686018427387904:=by omega
  obtain⟨A,c,rfl,hnc⟩:=aH ho
  have hrow:di (w1.alloc (.cells #[.slice A n c,.int .i64 0] 90)) (fun b=>w.heap.size+2≤b∧b<w1.heap.size) 1 A n (runeCells L) :=
    (di.cj (X:=fun b=>w.heap.size+2≤b∧b<w1.heap.size) ho (fun b hb=>⟨Nat.le_trans Yb.out (bG ho hb).1,(bG ho hb).2⟩)).keep (ag.alloc _ (fun b hb _=>hb))
  have nS:=Lib.hid (show vM w w1.heap.size A n c L (w1.alloc (.cells #[.slice A n c,.int .i64 0] 90)) 0 (.slice none 0 0) [] from
    ⟨⟨⟨_,ak.new _ _ _⟩,hrow.lift (fun b h=>by have:=h.2;omega),abb,Nat.zero_le _,hnc⟩,hrow,i6.out.alloc _,iJ.out.alloc _,gC.nil _ _ _,bT.out.alloc bT.out.size _,rj⟩)
  have hC:w1.heap.size+1≤(w1.alloc (.cells #[.slice A n c,.int .i64 0] 90)).heap.size:=by simp
  have PG:=Lib.hid hn
  clear ho hb HD fI td ek Yb hrow bT i6 iJ
  go_upto_region 4 with fail
  generalize w1.alloc (.cells #[.slice A n c,.int .i64 0] 90)=w2 at *
  generalize w1.heap.size=C at *
  have c0:=nS.out.cur.blk.cell 0
  by_cases wZ:16000<n
  · have mM:=Lib.hid (C6 (L:=L) (by rw [hn];exact wZ))
    have Fh:=Lib.hid (fun(W:World)=>b8 4 0 W)
    clear hn
    go_wp2_with fail
    refine(Fh.out _).mono ?_
    rintro e w3 ⟨rfl,rfl⟩
    go_wp2_with fail
    refine gO _ (w.heap.size+1) w.heap.size w.heap.size 4 0 0 0 _ _ _ _ _ rfl rfl nS.out.flt nS.out.res (by omega) (by omega) (Nat.le_refl _) nS.out.below.size (by decide) (fun W2 aL=>?_)
    rw [mM.out]
    exact⟨⟨none,0,0,rfl,gY.nil _ _,Nat.le_refl _⟩,nS.out.below.trans aL⟩
  · have HMU:=Lib.hid (show ¬ 16000<L.length from fun h=>wZ (by rw [← hn];exact h))
    have hn5:n≤16000:=by omega
    have iA:=Lib.hid (fun(W:World) (m:Nat) (h:ax W C A n c L m)=>cM W C A n c L m h)
    have rq:=Lib.hid (fun(W:World) (m:Nat) (h:ax W C A n c L m)=>jA W C A n c L m h)
    have KW:=Lib.hid (fun(W:World) (m:Nat) (r:Int) (h:ax W C A n c L m) (hr:r ≠ -1)=>fE W C A n c L m r h hr)
    have ru:=Lib.hid (fun(W:World) (m:Nat) (h:ax W C A n c L m)=>PY W C A n c L m h HV.out (by omega))
    obtain⟨R0,XQ⟩:∃ R0,iK L (L.length+1) 0 [] = R0:=⟨_,rfl⟩
    have kN:=Lib.hid (fun(x:Int) (p:Nat) (h:R0=.error (x,p))=>show ia L=([],(x,(p:Int))) from Ig HMU.out (XQ.trans h))
    have HXN:=Lib.hid (fun(x:Int) (p:Nat) (h:R0=.error (x,p))=>show x≠0 from Jt L _ _ _ _ _ (XQ.trans h))
    have Nu:=Lib.hid (fun(l:List aI) (h:R0=.ok l)=>show ia L=(l,(0,0)) from Kr HMU.out (XQ.trans h))
    have fI:=Lib.hid XQ
    generalize ia L=RP at *
    have abd:decide ((16000:Int)<(n:Int))=false:=decide_eq_false (by omega)
    clear hn XQ wZ
    go_wp2_with fail
    refine(rq.out _ 0 nS.out.cur).mono ?_
    rintro e w3 ⟨rfl,lD,bQ⟩
    have eE:=Lib.hid (nS.out.step lD bQ)
    have hC3:C+1≤w3.heap.size:=Nat.le_trans hC bQ.1
    clear lD bQ c0 abd hC
    go_wp2_with fail
    go_loopw [25] (fun _ wr=>∃ (f j:Nat) (acc:List aI) (v:Value),j≤n∧n+1≤f+j∧R0=iK L f j acc∧acc.length≤200∧vM w C A n c L wr (az L j) v acc∧C+1≤wr.heap.size) (fun _ wr=>n - (match wr.cell? ⟨C,1,none⟩with | some (.int _ j)=>j.toNat | _=>0))
    case atStart=>exact⟨L.length+1,0,[],_,Nat.zero_le _,by have:=PG.out;omega,fI.out.symm,Nat.zero_le _,eE.out,hC3⟩
    case round=>
      obtain⟨f0,j,acc,v,hj,hf,bf,FO,hfl,hCr⟩:=hrel
      obtain⟨f,rfl⟩:∃ f,f0=f+1:=⟨f0 - 1,by omega⟩
      obtain⟨a,ha⟩:∃ a,az L j=a:=⟨_,rfl⟩
      have PX:j≤a:=by rw [← ha];exact dA L j
      have fh:=Lib.hid bf
      have HA:=Lib.hid ha
      rw [ha]at hfl
      have nS:=Lib.hid hfl
      have nU:=Lib.hid (hfl.cur.blk.cell 1)
      have han:=hfl.cur.le
      obtain⟨Av,cv,rfl,sZ⟩:=hfl.own.form
      clear bf ha hfl
      go_wp2_with fail
      refine(iA.out _ a nS.out.cur).mono ?_
      rintro e w4 ⟨rfl,mo,hb4⟩
      have iF:=Lib.hid (nS.out.step mo hb4)
      have ZC:C+1≤w4.heap.size:=Nat.le_trans hCr hb4.1
      clear mo hb4
      have r4:=iF.out.res.cell 0
      by_cases hneg:pk L a<0
      · have hg:decide ((0:Int)≤pk L a)=false:=decide_eq_false (by omega)
        have mM:=Lib.hid (Nu.out acc (fh.out.trans (KO (by rw [HA.out];exact hneg))))
        clear hneg
        go_wp2_with fail
        have r5:=iF.out.res.frozen 0
        have s4:=iF.out.flt.cell 0
        have s5:=iF.out.flt.cell 1
        have s6:=iF.out.flt.frozen 0
        have s7:=iF.out.flt.frozen 1
        go_region
        obtain⟨h9R,h9F,h9B⟩:=Cu (m:=1) iF.out.res iF.out.flt (show w.heap.size≠w.heap.size+1 by omega)
        obtain⟨h9b,h9k⟩:=h9B w.heap.size (Nat.le_refl _) (by omega) iF.out.below.size
        have hW:(((w4.setCell { block:=w.heap.size,off:=0 } (Value.slice Av acc.length cv)).setCell { block:=w.heap.size+1,off:=0 } (Value.int IntKind.i64 0)).setCell { block:=w.heap.size+1,off:=1 } (Value.int IntKind.i64 0)).drew=(((w4.drewN 1).setCell { block:=w.heap.size,off:=0 } (Value.slice Av acc.length cv)).setCell { block:=w.heap.size+1,off:=0 } (Value.int IntKind.i64 0)).setCell { block:=w.heap.size+1,off:=1 } (Value.int IntKind.i64 0):=rfl
        rw [hW]
        have hCC:=iF.out.hC
        have lU:=Lib.hid h9R
        have Xl:=Lib.hid h9F
        have OO:=Lib.hid (iF.out.below.trans h9b)
        have hpx:=iF.out.own.done
        have YJ:=Lib.hid (show ag w4 (fun b=>C+1≤b) _ (fun b=>w.heap.size≤b) from fun b hb hl=>let ⟨e,_,h2⟩:=h9k b ⟨by omega,by omega⟩ hl;⟨e,by omega,h2⟩)
        have zA:=Lib.hid (hpx.keep YJ.out)
        clear h9R h9F h9B h9b h9k r4 r5 s4 s5 s6 s7 YJ hpx hW
        generalize (((w4.drewN 1).setCell { block:=w.heap.size,off:=0 } (Value.slice Av acc.length cv)).setCell { block:=w.heap.size+1,off:=0 } (Value.int IntKind.i64 0)).setCell { block:=w.heap.size+1,off:=1 } (Value.int IntKind.i64 0)=w9 at *
        go_wp2_with fail
        refine zw _ (w.heap.size+1) w.heap.size 0 (.slice Av acc.length cv) _ _ w9 _ rfl rfl Xl.out lU.out ?_
        rw [mM.out]
        exact⟨⟨Av,_,cv,rfl,zA.out,sZ⟩,OO.out⟩
      · have hg:decide ((0:Int)≤pk L a)=true:=decide_eq_true (by omega)
        have HNG:=Lib.hid hneg
        by_cases hm:acc.length=200
        · have HE:=Lib.hid (fh.out.trans (Gf (by rw [HA.out];exact hneg) hm))
          have ym:=Lib.hid (show R0=.error (5,a) by rw [HE.out,HA.out])
          have mM:=Lib.hid (kN.out 5 a ym.out)
          have y4:=iF.out.cur.blk.cell 1
          rw [hm]at r4
          clear hneg
          go_wp2_with fail
          refine(b8 5 a _).mono ?_
          rintro e w5 ⟨rfl,rfl⟩
          go_wp2_with fail
          refine gO _ (w.heap.size+1) w.heap.size w.heap.size 5 a 0 0 _ _ _ _ _ rfl rfl iF.out.flt iF.out.res (by omega) (by omega) (Nat.le_refl _) iF.out.below.size (by decide) (fun W2 aL=>?_)
          rw [mM.out]
          exact⟨⟨none,0,0,rfl,gY.nil _ _,Nat.le_refl _⟩,iF.out.below.trans aL⟩
        · have hm2:¬(acc.length:Int)=200:=by omega
          have qm:((acc.length:Int) == 200)=false:=by rw [beq_eq_false_iff_ne];exact hm2
          have HM:=Lib.hid hm
          clear hm hm2
          generalize FG:acc.length=al at *
          cases hp:j4 L a with
          | error e0=>
            obtain⟨x,p⟩:=e0
            have HE:=Lib.hid (fh.out.trans (GJ (by rw [HA.out];exact hneg) (by rw [FG];exact HM.out) (by rw [HA.out];exact hp)))
            have mM:=Lib.hid (kN.out x p HE.out)
            have hx:=HXN.out x p HE.out
            have Fq:=Lib.hid (fun(W:World) (h:ax W C A n c L a)=>show Calls Tryz.prog 59 #[.pointer (some ⟨C,0,none⟩)] W (ue W C A n c L (.error (x,p))) by have:=ru.out W a h;rwa [hp]at this)
            clear hp hneg
            go_upto_region 11 with fail
            have i7:=Lib.hid (iF.out.on (aE (Below.refl w4.heap.size w4)))
            have hCC:=iF.out.hC
            -- {err
            refine aB (S:=fun _=>True) [] (by kernel_rfl) trivial (fun _=>?_)
            refine fS (i:=0) (j:=1) (o:=⟨some 37,_,_,_,_,_⟩) (o2:=⟨some 38,_,_,_,_,_⟩) (by kernel_rfl) rfl rfl (fun K hK=>?_) (fun K hK=>?_)
            · go_simp
              try dsimp only
              refine hK.out _ _ trivial (fun _=>?_)
              clear hK K
              try simp only [zp,za,z0,zs]
              refine aF (i:=1) (o:=⟨some 38,_,_,_,_,_⟩) (by kernel_rfl) rfl (fun K hK=>?_)
              go_simp
              try dsimp only
              refine hK.out _ _ trivial (fun _=>?_)
              clear hK K
              try simp only [zp,za,z0,zs]
              refine aF (i:=2) (o:=⟨some 39,_,_,_,_,_⟩) (by kernel_rfl) rfl (fun K hK=>?_)
              go_simp
              go_at_call 59
              refine(Fq.out _ i7.out.cur).mono ?_
              rintro e w5 ⟨he,eH⟩
              unfold aV at he
              subst he
              have Gg:=(eH.2.2.2.2 _ i7.out.res.lt (by omega)).trans i7.out.res
              have M5:=(eH.2.2.2.2 _ i7.out.flt.lt (by omega)).trans i7.out.flt
              have vL:=Lib.hid Gg
              have ja:=Lib.hid M5
              have eK:=Lib.hid (i7.out.below.trans (eH.to i7.out.below.size (by omega)))
              clear eH Gg M5
              go_wp2_with fail
              refine gO _ (w.heap.size+1) w.heap.size w.heap.size x p 0 0 _ _ _ _ _ rfl rfl ja.out vL.out (by omega) (by omega) (Nat.le_refl _) eK.out.size hx (fun W2 aL=>?_)
              rw [mM.out]
              exact⟨⟨none,0,0,rfl,gY.nil _ _,Nat.le_refl _⟩,eK.out.trans aL⟩
            · go_simp
              try dsimp only
              refine hK.out _ _ trivial (fun _=>?_)
              clear hK K
              try simp only [zp,za,z0,zs]
              refine fS (i:=0) (j:=2) (o:=⟨some 37,_,_,_,_,_⟩) (o2:=⟨some 39,_,_,_,_,_⟩) (by kernel_rfl) rfl rfl (fun K hK=>?_) (fun K hK=>?_)
              · go_simp
                try dsimp only
                refine hK.out _ _ trivial (fun _=>?_)
                clear hK K
                try simp only [zp,za,z0,zs]
                refine aF (i:=2) (o:=⟨some 39,_,_,_,_,_⟩) (by kernel_rfl) rfl (fun K hK=>?_)
                go_simp
                go_at_call 59
                refine(Fq.out _ i7.out.cur).mono ?_
                rintro e w5 ⟨he,eH⟩
                unfold aV at he
                subst he
                have Gg:=(eH.2.2.2.2 _ i7.out.res.lt (by omega)).trans i7.out.res
                have M5:=(eH.2.2.2.2 _ i7.out.flt.lt (by omega)).trans i7.out.flt
                have vL:=Lib.hid Gg
                have ja:=Lib.hid M5
                have eK:=Lib.hid (i7.out.below.trans (eH.to i7.out.below.size (by omega)))
                clear eH Gg M5
                go_wp2_with fail
                refine gO _ (w.heap.size+1) w.heap.size w.heap.size x p 0 0 _ _ _ _ _ rfl rfl ja.out vL.out (by omega) (by omega) (Nat.le_refl _) eK.out.size hx (fun W2 aL=>?_)
                rw [mM.out]
                exact⟨⟨none,0,0,rfl,gY.nil _ _,Nat.le_refl _⟩,eK.out.trans aL⟩
              · go_simp
                go_at_call 59
                refine(Fq.out _ i7.out.cur).mono ?_
                rintro e w5 ⟨he,eH⟩
                unfold aV at he
                subst he
                have Gg:=(eH.2.2.2.2 _ i7.out.res.lt (by omega)).trans i7.out.res
                have M5:=(eH.2.2.2.2 _ i7.out.flt.lt (by omega)).trans i7.out.flt
                have vL:=Lib.hid Gg
                have ja:=Lib.hid M5
                have eK:=Lib.hid (i7.out.below.trans (eH.to i7.out.below.size (by omega)))
                clear eH Gg M5
                go_wp2_with fail
                refine gO _ (w.heap.size+1) w.heap.size w.heap.size x p 0 0 _ _ _ _ _ rfl rfl ja.out vL.out (by omega) (by omega) (Nat.le_refl _) eK.out.size hx (fun W2 aL=>?_)
                rw [mM.out]
                exact⟨⟨none,0,0,rfl,gY.nil _ _,Nat.le_refl _⟩,eK.out.trans aL⟩
            -- err}
          | ok q=>
            obtain⟨p,j2⟩:=q
            have Fq:=Lib.hid (fun(W:World) (h:ax W C A n c L a)=>show Calls Tryz.prog 59 #[.pointer (some ⟨C,0,none⟩)] W (ue W C A n c L (.ok (p,j2))) by have:=ru.out W a h;rwa [hp]at this)
            have HP:=Lib.hid hp
            have i7:=Lib.hid (iF.out.on (aE (Below.refl w4.heap.size w4)))
            have hCC:=iF.out.hC
            have VW:=Lib.hid (fun(b:Nat) (hb:w4.heap.size≤b)=>iF.out.own.apart hb)
            have V0:=Lib.hid (show(acc++[p]).length=al+1 by rw [List.length_append,FG];rfl)
            clear hp hneg
            go_upto_region 11 with fail
            go_cut [] from 21 to 47 (fun wx=>∃ v':Value,vM w C A n c L wx j2 v' (acc++[p])∧C+1≤wx.heap.size)
            case first=>
              -- {ok
              refine aB (S:=fun _=>True) [] (by kernel_rfl) trivial (fun _=>?_)
              refine fS (i:=0) (j:=1) (o:=⟨some 37,_,_,_,_,_⟩) (o2:=⟨some 38,_,_,_,_,_⟩) (by kernel_rfl) rfl rfl (fun K hK=>?_) (fun K hK=>?_)
              · go_simp
                try dsimp only
                refine hK.out _ _ trivial (fun _=>?_)
                clear hK K
                try simp only [zp,za,z0,zs]
                refine aF (i:=1) (o:=⟨some 38,_,_,_,_,_⟩) (by kernel_rfl) rfl (fun K hK=>?_)
                go_simp
                try dsimp only
                refine hK.out _ _ trivial (fun _=>?_)
                clear hK K
                try simp only [zp,za,z0,zs]
                refine aF (i:=2) (o:=⟨some 39,_,_,_,_,_⟩) (by kernel_rfl) rfl (fun K hK=>?_)
                go_simp
                go_at_call 59
                refine(Fq.out _ i7.out.cur).mono ?_
                rintro e w5 ⟨⟨cs,rfl,hpx⟩,mg,eH⟩
                obtain⟨v0,v1,v2,v3,v4,v5,v6,v7,v8,v9,v10,v11,v12,wj,wD,vY,rfl⟩:=oF hpx
                have ja:=Lib.hid (i7.out.step mg eH)
                have Uk:C+1≤w5.heap.size:=Nat.le_trans ZC eH.1
                have zA:=Lib.hid (eF.keep (X':=yd (C+1) C (.slice Av al cv)) (show ag w5 (wI w4.drew C) w5 (yd (C+1) C (.slice Av al cv)) from fun b h hl=>⟨rfl,⟨by have:=h.1;have h0:w4.drew.heap.size=w4.heap.size:=rfl;omega,h.2,VW.out b (Nat.le_of_lt h.1)⟩,hl⟩) hpx)
                have r5:=ja.out.res.cell 0
                clear hpx mg eH
                try dsimp only
                refine hK.out _ _ trivial (fun _=>?_)
                clear hK K
                try simp only [zp,za,z0,zs]
                refine aF (i:=3) (o:=⟨some 40,_,_,_,_,_⟩) (by kernel_rfl) rfl (fun K hK=>?_)
                have gZ:Below w5.heap.size w5 (w5.alloc (.cells #[v0,v1,v2,v3,v4,v5,v6,v7,v8,v9,v10,v11,v12,wj,wD,vY] 97)):=(Below.refl _ _).alloc (Nat.le_refl _) _
                have wL:=Lib.hid (ja.out.on gZ)
                have Gk:=Lib.hid (zA.out.keep (ag.any gZ))
                obtain⟨ys,gy,eB⟩:=wL.out.own.push p Gk.out
                rw [FG]at gy eB
                have yV:=Lib.hid gy
                have yU:=Lib.hid eB
                have E2:=Lib.hid (Rd.new w5 97 16 1 [v0,v1,v2,v3,v4,v5,v6,v7,v8,v9,v10,v11,v12,wj,wD,vY] rfl)
                have rZ:=Lib.hid zA.out.one.2
                have hsz:C+1≤(w5.alloc (.cells #[v0,v1,v2,v3,v4,v5,v6,v7,v8,v9,v10,v11,v12,wj,wD,vY] 97)).heap.size:=Nat.le_trans Uk gZ.size
                have r8:(w5.alloc (.cells #[v0,v1,v2,v3,v4,v5,v6,v7,v8,v9,v10,v11,v12,wj,wD,vY] 97)).cell? ⟨w.heap.size,0,none⟩=some (.slice Av al cv):=wL.out.res.cell 0
                clear gZ gy eB
                go_simp
                try dsimp only
                refine hK.out _ _ trivial (fun _=>?_)
                clear hK K
                try simp only [zp,za,z0,zs]
                refine aF (i:=4) (o:=⟨some 41,_,_,_,_,_⟩) (by kernel_rfl) rfl (fun K hK=>?_)
                refine cG _ rfl (.tmp 37) (.tmp 40) 57 rfl (C+1) 97 i0 _ 16 232 Tryz.underlying57 Lt u0 z1 z2 rfl (by decide) _ _ _ rfl yV.out (w5.heap.size+1) (some ⟨w5.heap.size,0,none⟩) 1 1 [v0,v1,v2,v3,v4,v5,v6,v7,v8,v9,v10,v11,v12,wj,wD,vY] rfl E2.out rZ.out (by simp only [maxLen];omega) (by omega) hsz ?_
                intro v' w9 an
                obtain⟨A9,c9,Ms,_⟩:=(yU.out v' w9 an).form
                rw [V0.out]at Ms
                subst Ms
                have pI:=Lib.hid (wL.out.push yV.out an (yU.out _ w9 an) hsz)
                have cV:=an.below hsz yV.out
                have x9:w9.cell? ⟨w.heap.size,0,none⟩=some (.slice Av al cv):=(cV.cell (p:=⟨w.heap.size,0,none⟩) (show w.heap.size<C+1 by omega)).trans (wL.out.res.cell 0)
                have NB:ak w9 w.heap.size 57 #[.slice Av al cv]:=(cV.block w.heap.size (by omega)).trans wL.out.res
                have y9:=NB.frozen 0
                have Py:=cV.size
                clear an
                try dsimp only
                refine hK.out _ _ trivial (fun _=>?_)
                clear hK K
                try simp only [zp,za,z0,zs]
                refine aF (i:=5) (by kernel_rfl) rfl (fun K hK=>?_)
                go_simp
                try dsimp only
                refine hK.out _ _ trivial (fun _=>?_)
                clear hK K
                try simp only [Act.put,List.setIfInBounds_toArray,List.set_cons_zero,List.set_cons_succ]
                refine aN (by kernel_rfl) ?_ _
                go_wp2_with fail
                go_meet
                exact⟨_,pI.out,by simpa using Nat.le_trans hsz Py⟩
              · go_simp
                try dsimp only
                refine hK.out _ _ trivial (fun _=>?_)
                clear hK K
                try simp only [Act.put,List.setIfInBounds_toArray,List.set_cons_zero,List.set_cons_succ]
                refine fS (i:=0) (j:=2) (o:=⟨some 37,_,_,_,_,_⟩) (o2:=⟨some 39,_,_,_,_,_⟩) (by kernel_rfl) rfl rfl (fun K hK=>?_) (fun K hK=>?_)
                · go_simp
                  try dsimp only
                  refine hK.out _ _ trivial (fun _=>?_)
                  clear hK K
                  try simp only [zp,za,z0,zs]
                  refine aF (i:=2) (o:=⟨some 39,_,_,_,_,_⟩) (by kernel_rfl) rfl (fun K hK=>?_)
                  go_simp
                  go_at_call 59
                  refine(Fq.out _ i7.out.cur).mono ?_
                  rintro e w5 ⟨⟨cs,rfl,hpx⟩,mg,eH⟩
                  obtain⟨v0,v1,v2,v3,v4,v5,v6,v7,v8,v9,v10,v11,v12,wj,wD,vY,rfl⟩:=oF hpx
                  have ja:=Lib.hid (i7.out.step mg eH)
                  have Uk:C+1≤w5.heap.size:=Nat.le_trans ZC eH.1
                  have zA:=Lib.hid (eF.keep (X':=yd (C+1) C (.slice Av al cv)) (show ag w5 (wI w4.drew C) w5 (yd (C+1) C (.slice Av al cv)) from fun b h hl=>⟨rfl,⟨by have:=h.1;have h0:w4.drew.heap.size=w4.heap.size:=rfl;omega,h.2,VW.out b (Nat.le_of_lt h.1)⟩,hl⟩) hpx)
                  have r5:=ja.out.res.cell 0
                  clear hpx mg eH
                  try dsimp only
                  refine hK.out _ _ trivial (fun _=>?_)
                  clear hK K
                  try simp only [zp,za,z0,zs]
                  refine aF (i:=3) (o:=⟨some 40,_,_,_,_,_⟩) (by kernel_rfl) rfl (fun K hK=>?_)
                  have gZ:Below w5.heap.size w5 (w5.alloc (.cells #[v0,v1,v2,v3,v4,v5,v6,v7,v8,v9,v10,v11,v12,wj,wD,vY] 97)):=(Below.refl _ _).alloc (Nat.le_refl _) _
                  have wL:=Lib.hid (ja.out.on gZ)
                  have Gk:=Lib.hid (zA.out.keep (ag.any gZ))
                  obtain⟨ys,gy,eB⟩:=wL.out.own.push p Gk.out
                  rw [FG]at gy eB
                  have yV:=Lib.hid gy
                  have yU:=Lib.hid eB
                  have E2:=Lib.hid (Rd.new w5 97 16 1 [v0,v1,v2,v3,v4,v5,v6,v7,v8,v9,v10,v11,v12,wj,wD,vY] rfl)
                  have rZ:=Lib.hid zA.out.one.2
                  have hsz:C+1≤(w5.alloc (.cells #[v0,v1,v2,v3,v4,v5,v6,v7,v8,v9,v10,v11,v12,wj,wD,vY] 97)).heap.size:=Nat.le_trans Uk gZ.size
                  have r8:(w5.alloc (.cells #[v0,v1,v2,v3,v4,v5,v6,v7,v8,v9,v10,v11,v12,wj,wD,vY] 97)).cell? ⟨w.heap.size,0,none⟩=some (.slice Av al cv):=wL.out.res.cell 0
                  clear gZ gy eB
                  go_simp
                  try dsimp only
                  refine hK.out _ _ trivial (fun _=>?_)
                  clear hK K
                  try simp only [zp,za,z0,zs]
                  refine aF (i:=4) (o:=⟨some 41,_,_,_,_,_⟩) (by kernel_rfl) rfl (fun K hK=>?_)
                  refine cG _ rfl (.tmp 37) (.tmp 40) 57 rfl (C+1) 97 i0 _ 16 232 Tryz.underlying57 Lt u0 z1 z2 rfl (by decide) _ _ _ rfl yV.out (w5.heap.size+1) (some ⟨w5.heap.size,0,none⟩) 1 1 [v0,v1,v2,v3,v4,v5,v6,v7,v8,v9,v10,v11,v12,wj,wD,vY] rfl E2.out rZ.out (by simp only [maxLen];omega) (by omega) hsz ?_
                  intro v' w9 an
                  obtain⟨A9,c9,Ms,_⟩:=(yU.out v' w9 an).form
                  rw [V0.out]at Ms
                  subst Ms
                  have pI:=Lib.hid (wL.out.push yV.out an (yU.out _ w9 an) hsz)
                  have cV:=an.below hsz yV.out
                  have x9:w9.cell? ⟨w.heap.size,0,none⟩=some (.slice Av al cv):=(cV.cell (p:=⟨w.heap.size,0,none⟩) (show w.heap.size<C+1 by omega)).trans (wL.out.res.cell 0)
                  have NB:ak w9 w.heap.size 57 #[.slice Av al cv]:=(cV.block w.heap.size (by omega)).trans wL.out.res
                  have y9:=NB.frozen 0
                  have Py:=cV.size
                  clear an
                  try dsimp only
                  refine hK.out _ _ trivial (fun _=>?_)
                  clear hK K
                  try simp only [zp,za,z0,zs]
                  refine aF (i:=5) (by kernel_rfl) rfl (fun K hK=>?_)
                  go_simp
                  try dsimp only
                  refine hK.out _ _ trivial (fun _=>?_)
                  clear hK K
                  try simp only [Act.put,List.setIfInBounds_toArray,List.set_cons_zero,List.set_cons_succ]
                  refine aN (by kernel_rfl) ?_ _
                  go_wp2_with fail
                  go_meet
                  exact⟨_,pI.out,by simpa using Nat.le_trans hsz Py⟩
                · go_simp
                  go_at_call 59
                  refine(Fq.out _ i7.out.cur).mono ?_
                  rintro e w5 ⟨⟨cs,rfl,hpx⟩,mg,eH⟩
                  obtain⟨v0,v1,v2,v3,v4,v5,v6,v7,v8,v9,v10,v11,v12,wj,wD,vY,rfl⟩:=oF hpx
                  have ja:=Lib.hid (i7.out.step mg eH)
                  have Uk:C+1≤w5.heap.size:=Nat.le_trans ZC eH.1
                  have zA:=Lib.hid (eF.keep (X':=yd (C+1) C (.slice Av al cv)) (show ag w5 (wI w4.drew C) w5 (yd (C+1) C (.slice Av al cv)) from fun b h hl=>⟨rfl,⟨by have:=h.1;have h0:w4.drew.heap.size=w4.heap.size:=rfl;omega,h.2,VW.out b (Nat.le_of_lt h.1)⟩,hl⟩) hpx)
                  have r5:=ja.out.res.cell 0
                  clear hpx mg eH
                  try dsimp only
                  refine hK.out _ _ trivial (fun _=>?_)
                  clear hK K
                  try simp only [Act.put,List.setIfInBounds_toArray,List.set_cons_zero,List.set_cons_succ]
                  refine fS (i:=0) (j:=3) (o:=⟨some 37,_,_,_,_,_⟩) (o2:=⟨some 40,_,_,_,_,_⟩) (by kernel_rfl) rfl rfl (fun K hK=>?_) (fun K hK=>?_)
                  · go_simp
                    try dsimp only
                    refine hK.out _ _ trivial (fun _=>?_)
                    clear hK K
                    try simp only [zp,za,z0,zs]
                    refine aF (i:=3) (o:=⟨some 40,_,_,_,_,_⟩) (by kernel_rfl) rfl (fun K hK=>?_)
                    have gZ:Below w5.heap.size w5 (w5.alloc (.cells #[v0,v1,v2,v3,v4,v5,v6,v7,v8,v9,v10,v11,v12,wj,wD,vY] 97)):=(Below.refl _ _).alloc (Nat.le_refl _) _
                    have wL:=Lib.hid (ja.out.on gZ)
                    have Gk:=Lib.hid (zA.out.keep (ag.any gZ))
                    obtain⟨ys,gy,eB⟩:=wL.out.own.push p Gk.out
                    rw [FG]at gy eB
                    have yV:=Lib.hid gy
                    have yU:=Lib.hid eB
                    have E2:=Lib.hid (Rd.new w5 97 16 1 [v0,v1,v2,v3,v4,v5,v6,v7,v8,v9,v10,v11,v12,wj,wD,vY] rfl)
                    have rZ:=Lib.hid zA.out.one.2
                    have hsz:C+1≤(w5.alloc (.cells #[v0,v1,v2,v3,v4,v5,v6,v7,v8,v9,v10,v11,v12,wj,wD,vY] 97)).heap.size:=Nat.le_trans Uk gZ.size
                    have r8:(w5.alloc (.cells #[v0,v1,v2,v3,v4,v5,v6,v7,v8,v9,v10,v11,v12,wj,wD,vY] 97)).cell? ⟨w.heap.size,0,none⟩=some (.slice Av al cv):=wL.out.res.cell 0
                    clear gZ gy eB
                    go_simp
                    try dsimp only
                    refine hK.out _ _ trivial (fun _=>?_)
                    clear hK K
                    try simp only [zp,za,z0,zs]
                    refine aF (i:=4) (o:=⟨some 41,_,_,_,_,_⟩) (by kernel_rfl) rfl (fun K hK=>?_)
                    refine cG _ rfl (.tmp 37) (.tmp 40) 57 rfl (C+1) 97 i0 _ 16 232 Tryz.underlying57 Lt u0 z1 z2 rfl (by decide) _ _ _ rfl yV.out (w5.heap.size+1) (some ⟨w5.heap.size,0,none⟩) 1 1 [v0,v1,v2,v3,v4,v5,v6,v7,v8,v9,v10,v11,v12,wj,wD,vY] rfl E2.out rZ.out (by simp only [maxLen];omega) (by omega) hsz ?_
                    intro v' w9 an
                    obtain⟨A9,c9,Ms,_⟩:=(yU.out v' w9 an).form
                    rw [V0.out]at Ms
                    subst Ms
                    have pI:=Lib.hid (wL.out.push yV.out an (yU.out _ w9 an) hsz)
                    have cV:=an.below hsz yV.out
                    have x9:w9.cell? ⟨w.heap.size,0,none⟩=some (.slice Av al cv):=(cV.cell (p:=⟨w.heap.size,0,none⟩) (show w.heap.size<C+1 by omega)).trans (wL.out.res.cell 0)
                    have NB:ak w9 w.heap.size 57 #[.slice Av al cv]:=(cV.block w.heap.size (by omega)).trans wL.out.res
                    have y9:=NB.frozen 0
                    have Py:=cV.size
                    clear an
                    try dsimp only
                    refine hK.out _ _ trivial (fun _=>?_)
                    clear hK K
                    try simp only [zp,za,z0,zs]
                    refine aF (i:=5) (by kernel_rfl) rfl (fun K hK=>?_)
                    go_simp
                    try dsimp only
                    refine hK.out _ _ trivial (fun _=>?_)
                    clear hK K
                    try simp only [Act.put,List.setIfInBounds_toArray,List.set_cons_zero,List.set_cons_succ]
                    refine aN (by kernel_rfl) ?_ _
                    go_wp2_with fail
                    go_meet
                    exact⟨_,pI.out,by simpa using Nat.le_trans hsz Py⟩
                  · have gZ:Below w5.heap.size w5 (w5.alloc (.cells #[v0,v1,v2,v3,v4,v5,v6,v7,v8,v9,v10,v11,v12,wj,wD,vY] 97)):=(Below.refl _ _).alloc (Nat.le_refl _) _
                    have wL:=Lib.hid (ja.out.on gZ)
                    have Gk:=Lib.hid (zA.out.keep (ag.any gZ))
                    obtain⟨ys,gy,eB⟩:=wL.out.own.push p Gk.out
                    rw [FG]at gy eB
                    have yV:=Lib.hid gy
                    have yU:=Lib.hid eB
                    have E2:=Lib.hid (Rd.new w5 97 16 1 [v0,v1,v2,v3,v4,v5,v6,v7,v8,v9,v10,v11,v12,wj,wD,vY] rfl)
                    have rZ:=Lib.hid zA.out.one.2
                    have hsz:C+1≤(w5.alloc (.cells #[v0,v1,v2,v3,v4,v5,v6,v7,v8,v9,v10,v11,v12,wj,wD,vY] 97)).heap.size:=Nat.le_trans Uk gZ.size
                    have r8:(w5.alloc (.cells #[v0,v1,v2,v3,v4,v5,v6,v7,v8,v9,v10,v11,v12,wj,wD,vY] 97)).cell? ⟨w.heap.size,0,none⟩=some (.slice Av al cv):=wL.out.res.cell 0
                    clear gZ gy eB
                    go_simp
                    try dsimp only
                    refine hK.out _ _ trivial (fun _=>?_)
                    clear hK K
                    try simp only [Act.put,List.setIfInBounds_toArray,List.set_cons_zero,List.set_cons_succ]
                    refine aF (i:=0) (o:=⟨some 37,_,_,_,_,_⟩) (by kernel_rfl) rfl (fun K hK=>?_)
                    go_simp
                    try dsimp only
                    refine hK.out _ _ trivial (fun _=>?_)
                    clear hK K
                    try simp only [zp,za,z0,zs]
                    refine aF (i:=4) (o:=⟨some 41,_,_,_,_,_⟩) (by kernel_rfl) rfl (fun K hK=>?_)
                    refine cG _ rfl (.tmp 37) (.tmp 40) 57 rfl (C+1) 97 i0 _ 16 232 Tryz.underlying57 Lt u0 z1 z2 rfl (by decide) _ _ _ rfl yV.out (w5.heap.size+1) (some ⟨w5.heap.size,0,none⟩) 1 1 [v0,v1,v2,v3,v4,v5,v6,v7,v8,v9,v10,v11,v12,wj,wD,vY] rfl E2.out rZ.out (by simp only [maxLen];omega) (by omega) hsz ?_
                    intro v' w9 an
                    obtain⟨A9,c9,Ms,_⟩:=(yU.out v' w9 an).form
                    rw [V0.out]at Ms
                    subst Ms
                    have pI:=Lib.hid (wL.out.push yV.out an (yU.out _ w9 an) hsz)
                    have cV:=an.below hsz yV.out
                    have x9:w9.cell? ⟨w.heap.size,0,none⟩=some (.slice Av al cv):=(cV.cell (p:=⟨w.heap.size,0,none⟩) (show w.heap.size<C+1 by omega)).trans (wL.out.res.cell 0)
                    have NB:ak w9 w.heap.size 57 #[.slice Av al cv]:=(cV.block w.heap.size (by omega)).trans wL.out.res
                    have y9:=NB.frozen 0
                    have Py:=cV.size
                    clear an
                    try dsimp only
                    refine hK.out _ _ trivial (fun _=>?_)
                    clear hK K
                    try simp only [zp,za,z0,zs]
                    refine aF (i:=5) (by kernel_rfl) rfl (fun K hK=>?_)
                    go_simp
                    try dsimp only
                    refine hK.out _ _ trivial (fun _=>?_)
                    clear hK K
                    try simp only [Act.put,List.setIfInBounds_toArray,List.set_cons_zero,List.set_cons_succ]
                    refine aN (by kernel_rfl) ?_ _
                    go_wp2_with fail
                    go_meet
                    exact⟨_,pI.out,by simpa using Nat.le_trans hsz Py⟩
              -- ok}
            case rest=>
              obtain⟨v6,US,hC6⟩:=hcut
              have uf:=Lib.hid US
              have afB:al<200:=by have:=HM.out;omega
              clear US r4
              go_wp2_with fail
              refine(rq.out _ j2 uf.out.cur).mono ?_
              rintro e w7 ⟨rfl,sJ,iB⟩
              have vk:=Lib.hid (uf.out.step sJ iB)
              have hC7:C+1≤w7.heap.size:=Nat.le_trans hC6 iB.1
              clear sJ iB
              obtain⟨b,hb⟩:∃ b,az L j2=b:=⟨_,rfl⟩
              have HB:=Lib.hid hb
              rw [hb]at vk
              clear hb
              have PA:=Lib.hid (KW.out _ b 59 vk.out.cur (by decide))
              cases hnd:aU L b 59 with
              | error e0=>
                obtain⟨x,q⟩:=e0
                have HE:=Lib.hid (fh.out.trans (Hp (by rw [HA.out];have:=HNG.out;omega) (by rw [FG];exact HM.out) (by rw [HA.out];exact HP.out) (by rw [HB.out];exact hnd)))
                have mM:=Lib.hid (kN.out x q HE.out)
                have hx:=HXN.out x q HE.out
                rw [hnd]at PA
                clear hnd
                go_wp2_with fail
                refine PA.out.mono ?_
                rintro e w8 ⟨he,gZ⟩
                unfold aV at he
                subst he
                have hr8:=(gZ.2.2.2.2 _ vk.out.res.lt (by omega)).trans vk.out.res
                have YW:=(gZ.2.2.2.2 _ vk.out.flt.lt (by omega)).trans vk.out.flt
                have HR8:=Lib.hid hr8
                have yL:=Lib.hid YW
                have yR:=Lib.hid (vk.out.below.trans (gZ.to vk.out.below.size (by omega)))
                clear gZ hr8 YW
                go_wp2_with fail
                refine gO _ (w.heap.size+1) w.heap.size w.heap.size x q 0 0 _ _ _ _ _ rfl rfl yL.out HR8.out (by omega) (by omega) (Nat.le_refl _) yR.out.size hx (fun W2 aL=>?_)
                rw [mM.out]
                exact⟨⟨none,0,0,rfl,gY.nil _ _,Nat.le_refl _⟩,yR.out.trans aL⟩
              | ok k=>
                have fW:=Lib.hid (fh.out.trans (GX (by rw [HA.out];have:=HNG.out;omega) (by rw [FG];exact HM.out) (by rw [HA.out];exact HP.out) (by rw [HB.out];exact hnd)))
                have HKB:=Lib.hid (show k=b+1 from(fZ hnd).1)
                have uH:=Lib.hid (M6 HV.out.ok (by rw [PG.out];exact han) HP.out)
                rw [hnd]at PA
                clear hnd
                go_wp2_with fail
                refine PA.out.mono ?_
                rintro e w8 ⟨rfl,Ip,gZ⟩
                have yL:=Lib.hid (vk.out.step Ip gZ)
                have hC8:C+1≤w8.heap.size:=Nat.le_trans hC7 gZ.1
                clear Ip gZ
                go_wp2_with fail
                refine(rq.out _ k yL.out.cur).mono ?_
                rintro e w9 ⟨rfl,M4,cV⟩
                have pI:=Lib.hid (yL.out.step M4 cV)
                have hC9:C+1≤w9.heap.size:=Nat.le_trans hC8 cV.1
                clear M4 cV
                go_wp2_with fail
                have hge:a≤b:=by have h1:=uH.out.1;have h2:=dA L j2;rw [HB.out]at h2;omega
                have hkb:=HKB.out
                have hkn:=yL.out.cur.le
                refine⟨⟨f,k,acc++[p],v6,hkn,by omega,fW.out,by rw [List.length_append,FG];simp;omega,pI.out,hC9⟩,?_⟩
                have e1:w9.cell? ⟨C,1,none⟩=some (.int .i64 ((az L k:Nat):Int)):=pI.out.cur.blk.cell 1
                have e2:=nU.out
                have hle:=pI.out.cur.le
                have afP:=dA L k
                rw [e1,e2]
                simp only [Int.toNat_natCast,List.getElem?_toArray,List.getElem?_cons_succ,List.getElem?_cons_zero]
                omega
noncomputable def oq (k:Nat):ByteArray:=files.getD (k*2+1) ⟨#[]⟩
theorem PV (name:ByteArray) (k:Nat) (hk:k<18) (hp:placeOf name files 0=k) (hsz:(oq k).size≤100000) (hr:(ia (ay (oq k) 0)).2=(0,0)) (hl:(ia (ay (oq k) 0)).1.length≤200) (sc:bl) (hs:cT false (ia (ay (oq k) 0)).1=(sc,(0,0))) (hne:sD sc=true) (w:World) :
    Calls Tryz.prog 34 #[.string name,.bool false] w (wC w sc):=by
 refine zR name (oq k) false k hk hp ?_ _ hl sc hs hne (fun W=>?_) (fun A n c W hn h=>?_) w
 ·unfold oq;have h:k*2+1<files.length:=(by rw [Az];omega);rw [List.getElem?_eq_getElem h,List.getD_eq_getElem?_getD,List.getElem?_eq_getElem h];rfl
 ·have h:=Gn (oq k) W (by omega);unfold AL at h;rw [hr]at h;refine h.mono ?_;rintro e w' ⟨⟨A,n,c,h1,h2,_⟩,hb⟩;exact⟨⟨A,n,c,h1,h2⟩,hb⟩
 exact Ln W.heap.size A n c _ W hn (Nat.le_refl _) h
theorem iM (name s:ByteArray) (l:List Int) (h:∀ W:World,Calls Tryz.prog 30 #[.string name,.bool false,.string s] W (iq W l)) (w:World) :
    Calls Tryz.prog 17 #[.string name,.string s,.string (pz l)] w fun e w'=>e=.returned (.bool true)∧Below w.heap.size w w':=by
 unfold iq at h;have H:=Lib.hid h;have q:((pz l).toList ==(pz l).toList)=true:=beq_self_eq_true _;clear h;generalize pz l=T at *;go_enter Tryz.func17,Tryz.ntmps17;go_wp2_with fail;refine(H.out w).mono ?_;rintro e w1 ⟨rfl,hb⟩;have HB:=Lib.hid hb;clear hb;go_wp2_with fail;go_ret;exact⟨rfl,HB.out⟩
structure mc (name:ByteArray) (k:Nat) (sc:bl):Prop where
  lt:k<18
  place:placeOf name files 0=k
  size:Nat.ble (oq k).size 100000=true
  read:(ia (ay (oq k) 0)).2=(0,0)
  len:Nat.ble (ia (ay (oq k) 0)).1.length 200=true
  ready:cT false (ia (ay (oq k) 0)).1=(sc,(0,0))
  ne:sD sc=true
theorem mc.BO {name:ByteArray} {k:Nat} {sc:bl} (h:mc name k sc) (w:World):Calls Tryz.prog 34 #[.string name,.bool false] w (wC w sc) :=
  PV name k h.lt h.place (Nat.le_of_ble_eq_true h.size) h.read (Nat.le_of_ble_eq_true h.len) sc h.ready h.ne w
structure nE (l:List au) (K:Nat):Prop where
  goes:∀ r∈l,zc K r
  one:1≤K
  four:K≤4
  BO:(cI (ji l)).1=0
  rules:(dY l).1=0
  heads:(gE l).2.1=0
  right:l.all (fun r=>r.target.all aK)=true
theorem Nf {l:List Int} (n:Nat) (h:l.all aK=true):(l.take n).all aK=true:=List.all_eq_true.2 fun x hx=>List.all_eq_true.1 h x (List.mem_of_mem_take hx)
theorem DK {l:List Int} (n:Nat) (h:l.all aK=true):(l.drop n).all aK=true:=List.all_eq_true.2 fun x hx=>List.all_eq_true.1 h x (List.mem_of_mem_drop hx)
theorem xj (l:List au) (hl:l.all (fun r=>r.target.all aK)=true):∀ (f:Nat) (A Z:List Int),A.all aK=true→Z.all aK=true→(cP l f A Z).all aK=true:=by
 intro f;induction f with
 | zero=>intro A Z hA _;cases Z <;> exact hA
 | succ f ih=>
  intro A Z hA hZ;cases Z with
  | nil=>exact hA
  | cons z Z=>
   rw [cP];split
   ·rw [List.all_cons,Bool.and_eq_true]at hZ;exact ih _ _ (by rw [List.all_append,hA,List.all_cons,hZ.1];rfl) hZ.2
   rename_i r hr;have h1:=List.all_eq_true.1 hl r (List.mem_of_find?_eq_some hr);have h2:(r.target++(z::Z).drop r.source.length).all aK=true:=(by rw [List.all_append,h1,DK _ hZ];rfl);exact ih _ _ (by rw [List.all_append,hA,Nf _ h2];rfl) (DK _ h2)
theorem E1 {t:List Int} (h:t.all aK=true) (hl:t.length≤4000):gw t=0:=by
 unfold gw;rw [if_neg (by omega),if_neg];unfold dh;intro h2;obtain⟨x,hx,h3⟩:=List.any_eq_true.1 h2;rw [List.all_eq_true.1 h x hx]at h3;cases h3
theorem iE {name:ByteArray} {k K:Nat} {l:List au} (h:mc name k (ji l)) (g:nE l K) (s:ByteArray) (hs:(ay s 0).length≤1000) (nN:s.size≤100000) (out:List Int) (ho:∀ f,(ay s 0).length≤f→cP l f [] (ay s 0)=out) (w:World) :
    Calls Tryz.prog 30 #[.string name,.bool false,.string s] w (iq w out):=by
 have h4:=g.four;have hK:K*(ay s 0).length≤4000:=Nat.le_trans (Nat.mul_le_mul h4 hs) (Nat.le_refl _);have ht:=E1 (fA s) (by omega);have hg:=go_rules l K g.one g.goes (ay s 0) g.BO g.rules g.heads ht hK;have hp:=(tE l K g.one g.goes (ay s 0) g.rules g.heads ht hK).1;have hr:=xj l g.right (8*(ay s 0).length+40) [] (ay s 0) rfl (fA s);have zF:=qJ l (ay s 0);rw [hp]at zF;rw [ho _ (by omega)]at hg hr zF;exact I3 name false s nN (ji l) out hg hr zF h.BO w
end Go.Proofs.YtapechjebkjidaaGreatDoor
