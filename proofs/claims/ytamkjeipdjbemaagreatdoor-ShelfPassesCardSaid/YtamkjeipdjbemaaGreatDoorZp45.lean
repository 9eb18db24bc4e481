import Derived.Test.YtamkjeipdjbemaaGreatDoorZp44
import Derived.Deep.CutRange
import Derived.Test.YtamkjeipdjbemaaGreatDoorZp26
import Derived.Test.YtamkjeipdjbemaaGreatDoorZp39
set_option maxHeartbeats 12800000
set_option maxRecDepth 100000
namespace Go.Proofs.YtamkjeipdjbemaaGreatDoor
open Go.RowKit
theorem JX {L:List Int} {f i:Nat} {l:List aK} (h:pk L (aD L i)<0):iW L (f+1) i l=.ok l:=by rw [iW,if_pos h]
theorem Gh {L:List Int} {f i:Nat} {l:List aK} (h:¬ pk L (aD L i)<0) (h2:l.length=200):iW L (f+1) i l=.error (5,aD L i):=by rw [iW,if_neg h,if_pos h2]
theorem FN {L:List Int} {f i:Nat} {l:List aK} {e:Int × Nat} (h:¬ pk L (aD L i)<0) (h2:¬ l.length=200) (h3:ku L (aD L i)=.error e):iW L (f+1) i l=.error e:=by rw [iW,if_neg h,if_neg h2,h3]
theorem Fh {L:List Int} {f i j:Nat} {l:List aK} {p:aK} {e:Int × Nat} (h:¬ pk L (aD L i)<0) (h2:¬ l.length=200) (h3:ku L (aD L i)=.ok (p,j)) (h4:bw L (aD L j) 59=.error e):iW L (f+1) i l=.error e:=by rw [iW,if_neg h,if_neg h2,h3];simp only;rw [h4]
theorem FQ {L:List Int} {f i j k:Nat} {l:List aK} {p:aK} (h:¬ pk L (aD L i)<0) (h2:¬ l.length=200) (h3:ku L (aD L i)=.ok (p,j)) (h4:bw L (aD L j) 59=.ok k):iW L (f+1) i l=iW L f k (l++[p]):=by rw [iW,if_neg h,if_neg h2,h3];simp only;rw [h4]
theorem oA {w:World} {X:Nat→Prop} {p:aK} {cs:List Value} (h:eV w X p cs):∃ v0 v1 v2 v3 v4 v5 v6 v7 v8 v9 v10 v11 v12 vD vG vn,cs = [v0,v1,v2,v3,v4,v5,v6,v7,v8,v9,v10,v11,v12,vD,vG,vn]:=by
 obtain⟨A',n',c',L1,a1,x1,L2,a2,x2,L3,a3,x3,R1,b1,y1,R2,b2,y2,R3,b3,y3,rfl⟩:=h.form;exact⟨_,_,_,_,_,_,_,_,_,_,_,_,_,_,_,_,rfl⟩
theorem Gj (s:ByteArray) (w:World) (hs:s.size≤1099511627776) :
    Calls Tryz.prog 13 #[.string s] w (zK w (jB (dw s 0))):=by
  obtain⟨i0,K9,u0,z1,z2⟩:=info_parts I3
  have hmf:∀ (fn:Fn) (first cap:Array Value) (w:World),(Instr.makeFunc fn first cap).run Tryz.prog w=.ok (.func fn first cap) w:=fun _ _ _ _=>rfl
  have HD:=qqh (fun(W:World)=>show Calls Tryz.prog 25 #[.string s] W fun e w'=>∃ v,e=.returned v∧uZ w' W.heap.size v (dw s 0)∧Below W.heap.size W w' from vU s W hs)
  have HV:=qqh (show ia (dw s 0) from yQ s)
  have hLs:(dw s 0).length≤s.size:=by
    unfold dw
    rw [List.length_map]
    have:=rj s s.size 0 (by omega)
    omega
  generalize dw s 0=L at *
  have cy:=qqh (show Below w.heap.size w ((w.alloc (.cells #[.slice none 0 0] 46)).alloc (.cells #[.int .i64 0,.int .i64 0] 34)) from(qqb.alloc qql _).alloc (by simp) _)
  have fW:=qqh (show an ((w.alloc (.cells #[.slice none 0 0] 46)).alloc (.cells #[.int .i64 0,.int .i64 0] 34)) w.heap.size 46 #[.slice none 0 0] from(an.new w _ _).alloc _)
  have lX:=qqh (show an ((w.alloc (.cells #[.slice none 0 0] 46)).alloc (.cells #[.int .i64 0,.int .i64 0] 34)) (w.heap.size+1) 34 #[.int .i64 0,.int .i64 0] from by
    have:=an.new (w.alloc (.cells #[.slice none 0 0] 46)) 34 #[.int .i64 0,.int .i64 0]
    simpa using this)
  have WR:=qqh (show w.heap.size+2≤((w.alloc (.cells #[.slice none 0 0] 46)).alloc (.cells #[.int .i64 0,.int .i64 0] 34)).heap.size by simp)
  go_enter_defers Tryz.func13,Tryz.ntmps13
  go_wp2_with fail
  refine(HD.out _).mono ?_
  rintro e w1 ⟨v,rfl,ho,hb⟩
  have bF:=qqh (cy.out.trans (hb.mono cy.out.size))
  have gX:=qqh (fW.out.below hb fW.out.lt)
  have eW:=qqh (lX.out.below hb lX.out.lt)
  have i6:w.heap.size+2≤w1.heap.size:=Nat.le_trans WR.out hb.size
  obtain⟨n,hn⟩:∃ n,L.length=n:=⟨_,rfl⟩
  unfold uZ at ho
  rw [hn]at ho
  have Z6:n≤4611686018427387904:=by omega
  obtain⟨A,c,rfl,hnc⟩:=av ho
  have hrow:cL (w1.alloc (.cells #[.slice A n c,.int .i64 0] 76)) (fun b=>w.heap.size+2≤b∧b<w1.heap.size) 1 A n (runeCells L) :=
    (cL.b8 (X:=fun b=>w.heap.size+2≤b∧b<w1.heap.size) ho (fun b hb=>⟨Nat.le_trans WR.out (bt ho hb).1,(bt ho hb).2⟩)).keep (aa.alloc _ (fun b hb _=>hb))
  have mj:=qqh (show uE w w1.heap.size A n c L (w1.alloc (.cells #[.slice A n c,.int .i64 0] 76)) 0 (.slice none 0 0) [] from
    ⟨⟨⟨_,an.new _ _ _⟩,hrow.lift (fun b h=>by have:=h.2;omega),Z6,Nat.zero_le _,hnc⟩,hrow,gX.out.alloc _,eW.out.alloc _,gT.nil _ _ _,bF.out.alloc bF.out.size _,i6⟩)
  have hC:w1.heap.size+1≤(w1.alloc (.cells #[.slice A n c,.int .i64 0] 76)).heap.size:=by simp
  have K1:=qqh hn
  clear ho hb HD fW lX cy WR hrow bF gX eW
  go_upto_region 4 with fail
  generalize w1.alloc (.cells #[.slice A n c,.int .i64 0] 76)=w2 at *
  generalize w1.heap.size=C at *
  have c0:=mj.out.cur.blk.cell 0
  by_cases xU:16000<n
  · have mF:=qqh (CT (L:=L) (by rw [hn];exact xU))
    have EX:=qqh (fun(W:World)=>cE 4 0 W)
    clear hn
    go_wp2_with fail
    refine(EX.out _).mono ?_
    rintro e w3 ⟨rfl,rfl⟩
    go_wp2_with fail
    refine ij _ (w.heap.size+1) w.heap.size w.heap.size 4 0 0 0 _ _ _ _ _ rfl rfl mj.out.flt mj.out.res (by omega) (by omega) qql mj.out.below.size (by decide) (fun W2 aX=>?_)
    rw [mF.out]
    exact⟨⟨none,0,0,rfl,iE.nil _ _,qql⟩,mj.out.below.trans aX⟩
  · have HMU:=qqh (show ¬ 16000<L.length from fun h=>xU (by rw [← hn];exact h))
    have hn5:n≤16000:=by omega
    have iP:=qqh (fun(W:World) (m:Nat) (h:aB W C A n c L m)=>dn W C A n c L m h)
    have pS:=qqh (fun(W:World) (m:Nat) (h:aB W C A n c L m)=>jO W C A n c L m h)
    have Kx:=qqh (fun(W:World) (m:Nat) (r:Int) (h:aB W C A n c L m) (hr:r ≠ -1)=>fM W C A n c L m r h hr)
    have qX:=qqh (fun(W:World) (m:Nat) (h:aB W C A n c L m)=>O3 W C A n c L m h HV.out (by omega))
    obtain⟨R0,Vv⟩:∃ R0,iW L (L.length+1) 0 [] = R0:=⟨_,rfl⟩
    have kX:=qqh (fun(x:Int) (p:Nat) (h:R0=.error (x,p))=>show jB L=([],(x,(p:Int))) from FT HMU.out (Vv.trans h))
    have HXN:=qqh (fun(x:Int) (p:Nat) (h:R0=.error (x,p))=>show x≠0 from IP L _ _ _ _ _ (Vv.trans h))
    have Fo:=qqh (fun(l:List aK) (h:R0=.ok l)=>show jB L=(l,(0,0)) from Km HMU.out (Vv.trans h))
    have fW:=qqh Vv
    generalize jB L=RP at *
    have abB:decide ((16000:Int)<(n:Int))=false:=decide_eq_false (by omega)
    clear hn Vv xU
    go_wp2_with fail
    refine(pS.out _ 0 mj.out.cur).mono ?_
    rintro e w3 ⟨rfl,lR,bM⟩
    have dV:=qqh (mj.out.step lR bM)
    have hC3:C+1≤w3.heap.size:=Nat.le_trans hC bM.1
    clear lR bM c0 abB hC
    go_wp2_with fail
    go_loopw [25] (fun _ wr=>∃ (f j:Nat) (acc:List aK) (v:Value),j≤n∧n+1≤f+j∧R0=iW L f j acc∧acc.length≤200∧uE w C A n c L wr (aD L j) v acc∧C+1≤wr.heap.size) (fun _ wr=>n - (match wr.cell? ⟨C,1,none⟩with | some (.int _ j)=>j.toNat | _=>0))
    case atStart=>exact⟨L.length+1,0,[],_,Nat.zero_le _,by have:=K1.out;omega,fW.out.symm,Nat.zero_le _,dV.out,hC3⟩
    case round=>
      obtain⟨f0,j,acc,v,hj,hf,aN,GN,hfl,hCr⟩:=hrel
      obtain⟨f,rfl⟩:∃ f,f0=f+1:=⟨f0 - 1,by omega⟩
      obtain⟨a,ha⟩:∃ a,aD L j=a:=⟨_,rfl⟩
      have Pd:j≤a:=by rw [← ha];exact dP L j
      have dh:=qqh aN
      have HA:=qqh ha
      rw [ha]at hfl
      have mj:=qqh hfl
      have nc:=qqh (hfl.cur.blk.cell 1)
      have han:=hfl.cur.le
      obtain⟨Av,cv,rfl,sP⟩:=hfl.own.form
      clear aN ha hfl
      go_wp2_with fail
      refine(iP.out _ a mj.out.cur).mono ?_
      rintro e w4 ⟨rfl,mC,hb4⟩
      have iC:=qqh (mj.out.step mC hb4)
      have Y8:C+1≤w4.heap.size:=Nat.le_trans hCr hb4.1
      clear mC hb4
      have r4:=iC.out.res.cell 0
      by_cases hneg:pk L a<0
      · have hg:decide ((0:Int)≤pk L a)=false:=decide_eq_false (by omega)
        have mF:=qqh (Fo.out acc (dh.out.trans (JX (by rw [HA.out];exact hneg))))
        clear hneg
        go_wp2_with fail
        have r5:=iC.out.res.frozen 0
        have s4:=iC.out.flt.cell 0
        have s5:=iC.out.flt.cell 1
        have s6:=iC.out.flt.frozen 0
        have s7:=iC.out.flt.frozen 1
        go_region
        obtain⟨h9R,h9F,h9B⟩:=BJ (m:=1) iC.out.res iC.out.flt (show w.heap.size≠w.heap.size+1 by omega)
        obtain⟨h9b,h9k⟩:=h9B w.heap.size qql (by omega) iC.out.below.size
        have hW:(((w4.setCell { block:=w.heap.size,off:=0 } (Value.slice Av acc.length cv)).setCell { block:=w.heap.size+1,off:=0 } (Value.int IntKind.i64 0)).setCell { block:=w.heap.size+1,off:=1 } (Value.int IntKind.i64 0)).drew=(((w4.drewN 1).setCell { block:=w.heap.size,off:=0 } (Value.slice Av acc.length cv)).setCell { block:=w.heap.size+1,off:=0 } (Value.int IntKind.i64 0)).setCell { block:=w.heap.size+1,off:=1 } (Value.int IntKind.i64 0):=rfl
        rw [hW]
        have hCC:=iC.out.hC
        have iT:=qqh h9R
        have Qh:=qqh h9F
        have N8:=qqh (iC.out.below.trans h9b)
        have hpx:=iC.out.own.done
        have HKK:=qqh (show aa w4 (fun b=>C+1≤b) _ (fun b=>w.heap.size≤b) from fun b hb hl=>let ⟨e,_,h2⟩:=h9k b ⟨by omega,by omega⟩ hl;⟨e,by omega,h2⟩)
        have wX:=qqh (hpx.keep HKK.out)
        clear h9R h9F h9B h9b h9k r4 r5 s4 s5 s6 s7 HKK hpx hW
        generalize (((w4.drewN 1).setCell { block:=w.heap.size,off:=0 } (Value.slice Av acc.length cv)).setCell { block:=w.heap.size+1,off:=0 } (Value.int IntKind.i64 0)).setCell { block:=w.heap.size+1,off:=1 } (Value.int IntKind.i64 0)=w9 at *
        go_wp2_with fail
        refine ze _ (w.heap.size+1) w.heap.size 0 (.slice Av acc.length cv) _ _ w9 _ rfl rfl Qh.out iT.out ?_
        rw [mF.out]
        exact⟨⟨Av,_,cv,rfl,wX.out,sP⟩,N8.out⟩
      · have hg:decide ((0:Int)≤pk L a)=true:=decide_eq_true (by omega)
        have HNG:=qqh hneg
        by_cases hm:acc.length=200
        · have HE:=qqh (dh.out.trans (Gh (by rw [HA.out];exact hneg) hm))
          have wu:=qqh (show R0=.error (5,a) by rw [HE.out,HA.out])
          have mF:=qqh (kX.out 5 a wu.out)
          have y4:=iC.out.cur.blk.cell 1
          rw [hm]at r4
          clear hneg
          go_wp2_with fail
          refine(cE 5 a _).mono ?_
          rintro e w5 ⟨rfl,rfl⟩
          go_wp2_with fail
          refine ij _ (w.heap.size+1) w.heap.size w.heap.size 5 a 0 0 _ _ _ _ _ rfl rfl iC.out.flt iC.out.res (by omega) (by omega) qql iC.out.below.size (by decide) (fun W2 aX=>?_)
          rw [mF.out]
          exact⟨⟨none,0,0,rfl,iE.nil _ _,qql⟩,iC.out.below.trans aX⟩
        · have hm2:¬(acc.length:Int)=200:=by omega
          have qm:((acc.length:Int) == 200)=false:=by rw [beq_eq_false_iff_ne];exact hm2
          have HM:=qqh hm
          clear hm hm2
          generalize qu:acc.length=al at *
          cases hp:ku L a with
          | error e0=>
            obtain⟨x,p⟩:=e0
            have HE:=qqh (dh.out.trans (FN (by rw [HA.out];exact hneg) (by rw [qu];exact HM.out) (by rw [HA.out];exact hp)))
            have mF:=qqh (kX.out x p HE.out)
            have hx:=HXN.out x p HE.out
            have E0:=qqh (fun(W:World) (h:aB W C A n c L a)=>show Calls Tryz.prog 36 #[.pointer (some ⟨C,0,none⟩)] W (sZ W C A n c L (.error (x,p))) by have:=qX.out W a h;rwa [hp]at this)
            clear hp hneg
            go_upto_region 11 with fail
            have jq:=qqh (iC.out.on (ak (Below.refl w4.heap.size w4)))
            have hCC:=iC.out.hC
            -- {err
            refine aC (S:=fun _=>True) [] (by kernel_rfl) trivial (fun _=>?_)
            refine dL (i:=0) (j:=1) (o:=⟨some 37,_,_,_,_,_⟩) (o2:=⟨some 38,_,_,_,_,_⟩) (by kernel_rfl) rfl rfl (fun K hK=>?_) (fun K hK=>?_)
            · go_simp
              try dsimp only
              refine hK.out _ _ trivial (fun _=>?_)
              clear hK K
              try simp only [zp,za,z0,zs]
              refine ax (i:=1) (o:=⟨some 38,_,_,_,_,_⟩) (by kernel_rfl) rfl (fun K hK=>?_)
              go_simp
              try dsimp only
              refine hK.out _ _ trivial (fun _=>?_)
              clear hK K
              try simp only [zp,za,z0,zs]
              refine ax (i:=2) (o:=⟨some 39,_,_,_,_,_⟩) (by kernel_rfl) rfl (fun K hK=>?_)
              go_simp
              go_at_call 36
              refine(E0.out _ jq.out.cur).mono ?_
              rintro e w5 ⟨he,eS⟩
              unfold bA at he
              subst he
              have Fs:=(eS.2.2.2.2 _ jq.out.res.lt (by omega)).trans jq.out.res
              have Nu:=(eS.2.2.2.2 _ jq.out.flt.lt (by omega)).trans jq.out.flt
              have uL:=qqh Fs
              have jr:=qqh Nu
              have eD:=qqh (jq.out.below.trans (eS.to jq.out.below.size (by omega)))
              clear eS Fs Nu
              go_wp2_with fail
              refine ij _ (w.heap.size+1) w.heap.size w.heap.size x p 0 0 _ _ _ _ _ rfl rfl jr.out uL.out (by omega) (by omega) qql eD.out.size hx (fun W2 aX=>?_)
              rw [mF.out]
              exact⟨⟨none,0,0,rfl,iE.nil _ _,qql⟩,eD.out.trans aX⟩
            · go_simp
              try dsimp only
              refine hK.out _ _ trivial (fun _=>?_)
              clear hK K
              try simp only [zp,za,z0,zs]
              refine dL (i:=0) (j:=2) (o:=⟨some 37,_,_,_,_,_⟩) (o2:=⟨some 39,_,_,_,_,_⟩) (by kernel_rfl) rfl rfl (fun K hK=>?_) (fun K hK=>?_)
              · go_simp
                try dsimp only
                refine hK.out _ _ trivial (fun _=>?_)
                clear hK K
                try simp only [zp,za,z0,zs]
                refine ax (i:=2) (o:=⟨some 39,_,_,_,_,_⟩) (by kernel_rfl) rfl (fun K hK=>?_)
                go_simp
                go_at_call 36
                refine(E0.out _ jq.out.cur).mono ?_
                rintro e w5 ⟨he,eS⟩
                unfold bA at he
                subst he
                have Fs:=(eS.2.2.2.2 _ jq.out.res.lt (by omega)).trans jq.out.res
                have Nu:=(eS.2.2.2.2 _ jq.out.flt.lt (by omega)).trans jq.out.flt
                have uL:=qqh Fs
                have jr:=qqh Nu
                have eD:=qqh (jq.out.below.trans (eS.to jq.out.below.size (by omega)))
                clear eS Fs Nu
                go_wp2_with fail
                refine ij _ (w.heap.size+1) w.heap.size w.heap.size x p 0 0 _ _ _ _ _ rfl rfl jr.out uL.out (by omega) (by omega) qql eD.out.size hx (fun W2 aX=>?_)
                rw [mF.out]
                exact⟨⟨none,0,0,rfl,iE.nil _ _,qql⟩,eD.out.trans aX⟩
              · go_simp
                go_at_call 36
                refine(E0.out _ jq.out.cur).mono ?_
                rintro e w5 ⟨he,eS⟩
                unfold bA at he
                subst he
                have Fs:=(eS.2.2.2.2 _ jq.out.res.lt (by omega)).trans jq.out.res
                have Nu:=(eS.2.2.2.2 _ jq.out.flt.lt (by omega)).trans jq.out.flt
                have uL:=qqh Fs
                have jr:=qqh Nu
                have eD:=qqh (jq.out.below.trans (eS.to jq.out.below.size (by omega)))
                clear eS Fs Nu
                go_wp2_with fail
                refine ij _ (w.heap.size+1) w.heap.size w.heap.size x p 0 0 _ _ _ _ _ rfl rfl jr.out uL.out (by omega) (by omega) qql eD.out.size hx (fun W2 aX=>?_)
                rw [mF.out]
                exact⟨⟨none,0,0,rfl,iE.nil _ _,qql⟩,eD.out.trans aX⟩
            -- err}
          | ok q=>
            obtain⟨p,j2⟩:=q
            have E0:=qqh (fun(W:World) (h:aB W C A n c L a)=>show Calls Tryz.prog 36 #[.pointer (some ⟨C,0,none⟩)] W (sZ W C A n c L (.ok (p,j2))) by have:=qX.out W a h;rwa [hp]at this)
            have HP:=qqh hp
            have jq:=qqh (iC.out.on (ak (Below.refl w4.heap.size w4)))
            have hCC:=iC.out.hC
            have Cu:=qqh (fun(b:Nat) (hb:w4.heap.size≤b)=>iC.out.own.apart hb)
            have PN:=qqh (show(acc++[p]).length=al+1 by rw [List.length_append,qu];rfl)
            clear hp hneg
            go_upto_region 11 with fail
            go_cut [] from 21 to 47 (fun wx=>∃ v':Value,uE w C A n c L wx j2 v' (acc++[p])∧C+1≤wx.heap.size)
            case first=>
              -- {ok
              refine aC (S:=fun _=>True) [] (by kernel_rfl) trivial (fun _=>?_)
              refine dL (i:=0) (j:=1) (o:=⟨some 37,_,_,_,_,_⟩) (o2:=⟨some 38,_,_,_,_,_⟩) (by kernel_rfl) rfl rfl (fun K hK=>?_) (fun K hK=>?_)
              · go_simp
                try dsimp only
                refine hK.out _ _ trivial (fun _=>?_)
                clear hK K
                try simp only [zp,za,z0,zs]
                refine ax (i:=1) (o:=⟨some 38,_,_,_,_,_⟩) (by kernel_rfl) rfl (fun K hK=>?_)
                go_simp
                try dsimp only
                refine hK.out _ _ trivial (fun _=>?_)
                clear hK K
                try simp only [zp,za,z0,zs]
                refine ax (i:=2) (o:=⟨some 39,_,_,_,_,_⟩) (by kernel_rfl) rfl (fun K hK=>?_)
                go_simp
                go_at_call 36
                refine(E0.out _ jq.out.cur).mono ?_
                rintro e w5 ⟨⟨cs,rfl,hpx⟩,mu,eS⟩
                obtain⟨v0,v1,v2,v3,v4,v5,v6,v7,v8,v9,v10,v11,v12,vD,vG,vn,rfl⟩:=oA hpx
                have jr:=qqh (jq.out.step mu eS)
                have Uf:C+1≤w5.heap.size:=Nat.le_trans Y8 eS.1
                have wX:=qqh (eV.keep (X':=xA (C+1) C (.slice Av al cv)) (show aa w5 (vt w4.drew C) w5 (xA (C+1) C (.slice Av al cv)) from fun b h hl=>⟨rfl,⟨by have:=h.1;have h0:w4.drew.heap.size=w4.heap.size:=rfl;omega,h.2,Cu.out b (Nat.le_of_lt h.1)⟩,hl⟩) hpx)
                have r5:=jr.out.res.cell 0
                clear hpx mu eS
                try dsimp only
                refine hK.out _ _ trivial (fun _=>?_)
                clear hK K
                try simp only [zp,za,z0,zs]
                refine ax (i:=3) (o:=⟨some 40,_,_,_,_,_⟩) (by kernel_rfl) rfl (fun K hK=>?_)
                have iG:Below w5.heap.size w5 (w5.alloc (.cells #[v0,v1,v2,v3,v4,v5,v6,v7,v8,v9,v10,v11,v12,vD,vG,vn] 83)):=qqb.alloc qql _
                have xB:=qqh (jr.out.on iG)
                have GC:=qqh (wX.out.keep (aa.any iG))
                obtain⟨ys,gL,eM⟩:=xB.out.own.push p GC.out
                rw [qu]at gL eM
                have yC:=qqh gL
                have zi:=qqh eM
                have Eb:=qqh (Rd.new w5 83 16 1 [v0,v1,v2,v3,v4,v5,v6,v7,v8,v9,v10,v11,v12,vD,vG,vn] rfl)
                have sA:=qqh wX.out.one.2
                have hsz:C+1≤(w5.alloc (.cells #[v0,v1,v2,v3,v4,v5,v6,v7,v8,v9,v10,v11,v12,vD,vG,vn] 83)).heap.size:=Nat.le_trans Uf iG.size
                have r8:(w5.alloc (.cells #[v0,v1,v2,v3,v4,v5,v6,v7,v8,v9,v10,v11,v12,vD,vG,vn] 83)).cell? ⟨w.heap.size,0,none⟩=some (.slice Av al cv):=xB.out.res.cell 0
                clear iG gL eM
                go_simp
                try dsimp only
                refine hK.out _ _ trivial (fun _=>?_)
                clear hK K
                try simp only [zp,za,z0,zs]
                refine ax (i:=4) (o:=⟨some 41,_,_,_,_,_⟩) (by kernel_rfl) rfl (fun K hK=>?_)
                refine aH _ rfl (.tmp 37) (.tmp 40) 46 rfl (C+1) 83 i0 _ 16 232 Tryz.underlying46 K9 u0 z1 z2 rfl (by decide) _ _ _ rfl yC.out (w5.heap.size+1) (some ⟨w5.heap.size,0,none⟩) 1 1 [v0,v1,v2,v3,v4,v5,v6,v7,v8,v9,v10,v11,v12,vD,vG,vn] rfl Eb.out sA.out (by simp only [maxLen];omega) (by omega) hsz ?_
                intro v' w9 af
                obtain⟨A9,c9,LJ,_⟩:=(zi.out v' w9 af).form
                rw [PN.out]at LJ
                subst LJ
                have mB:=qqh (xB.out.push yC.out af (zi.out _ w9 af) hsz)
                have cA:=af.below hsz yC.out
                have x9:w9.cell? ⟨w.heap.size,0,none⟩=some (.slice Av al cv):=(cA.cell (p:=⟨w.heap.size,0,none⟩) (show w.heap.size<C+1 by omega)).trans (xB.out.res.cell 0)
                have E1:an w9 w.heap.size 46 #[.slice Av al cv]:=(cA.block w.heap.size (by omega)).trans xB.out.res
                have y9:=E1.frozen 0
                have N7:=cA.size
                clear af
                try dsimp only
                refine hK.out _ _ trivial (fun _=>?_)
                clear hK K
                try simp only [zp,za,z0,zs]
                refine ax (i:=5) (by kernel_rfl) rfl (fun K hK=>?_)
                go_simp
                try dsimp only
                refine hK.out _ _ trivial (fun _=>?_)
                clear hK K
                try simp only [Act.put,List.setIfInBounds_toArray,List.set_cons_zero,List.set_cons_succ]
                refine aL (by kernel_rfl) ?_ _
                go_wp2_with fail
                go_meet
                exact⟨_,mB.out,by simpa using Nat.le_trans hsz N7⟩
              · go_simp
                try dsimp only
                refine hK.out _ _ trivial (fun _=>?_)
                clear hK K
                try simp only [Act.put,List.setIfInBounds_toArray,List.set_cons_zero,List.set_cons_succ]
                refine dL (i:=0) (j:=2) (o:=⟨some 37,_,_,_,_,_⟩) (o2:=⟨some 39,_,_,_,_,_⟩) (by kernel_rfl) rfl rfl (fun K hK=>?_) (fun K hK=>?_)
                · go_simp
                  try dsimp only
                  refine hK.out _ _ trivial (fun _=>?_)
                  clear hK K
                  try simp only [zp,za,z0,zs]
                  refine ax (i:=2) (o:=⟨some 39,_,_,_,_,_⟩) (by kernel_rfl) rfl (fun K hK=>?_)
                  go_simp
                  go_at_call 36
                  refine(E0.out _ jq.out.cur).mono ?_
                  rintro e w5 ⟨⟨cs,rfl,hpx⟩,mu,eS⟩
                  obtain⟨v0,v1,v2,v3,v4,v5,v6,v7,v8,v9,v10,v11,v12,vD,vG,vn,rfl⟩:=oA hpx
                  have jr:=qqh (jq.out.step mu eS)
                  have Uf:C+1≤w5.heap.size:=Nat.le_trans Y8 eS.1
                  have wX:=qqh (eV.keep (X':=xA (C+1) C (.slice Av al cv)) (show aa w5 (vt w4.drew C) w5 (xA (C+1) C (.slice Av al cv)) from fun b h hl=>⟨rfl,⟨by have:=h.1;have h0:w4.drew.heap.size=w4.heap.size:=rfl;omega,h.2,Cu.out b (Nat.le_of_lt h.1)⟩,hl⟩) hpx)
                  have r5:=jr.out.res.cell 0
                  clear hpx mu eS
                  try dsimp only
                  refine hK.out _ _ trivial (fun _=>?_)
                  clear hK K
                  try simp only [zp,za,z0,zs]
                  refine ax (i:=3) (o:=⟨some 40,_,_,_,_,_⟩) (by kernel_rfl) rfl (fun K hK=>?_)
                  have iG:Below w5.heap.size w5 (w5.alloc (.cells #[v0,v1,v2,v3,v4,v5,v6,v7,v8,v9,v10,v11,v12,vD,vG,vn] 83)):=qqb.alloc qql _
                  have xB:=qqh (jr.out.on iG)
                  have GC:=qqh (wX.out.keep (aa.any iG))
                  obtain⟨ys,gL,eM⟩:=xB.out.own.push p GC.out
                  rw [qu]at gL eM
                  have yC:=qqh gL
                  have zi:=qqh eM
                  have Eb:=qqh (Rd.new w5 83 16 1 [v0,v1,v2,v3,v4,v5,v6,v7,v8,v9,v10,v11,v12,vD,vG,vn] rfl)
                  have sA:=qqh wX.out.one.2
                  have hsz:C+1≤(w5.alloc (.cells #[v0,v1,v2,v3,v4,v5,v6,v7,v8,v9,v10,v11,v12,vD,vG,vn] 83)).heap.size:=Nat.le_trans Uf iG.size
                  have r8:(w5.alloc (.cells #[v0,v1,v2,v3,v4,v5,v6,v7,v8,v9,v10,v11,v12,vD,vG,vn] 83)).cell? ⟨w.heap.size,0,none⟩=some (.slice Av al cv):=xB.out.res.cell 0
                  clear iG gL eM
                  go_simp
                  try dsimp only
                  refine hK.out _ _ trivial (fun _=>?_)
                  clear hK K
                  try simp only [zp,za,z0,zs]
                  refine ax (i:=4) (o:=⟨some 41,_,_,_,_,_⟩) (by kernel_rfl) rfl (fun K hK=>?_)
                  refine aH _ rfl (.tmp 37) (.tmp 40) 46 rfl (C+1) 83 i0 _ 16 232 Tryz.underlying46 K9 u0 z1 z2 rfl (by decide) _ _ _ rfl yC.out (w5.heap.size+1) (some ⟨w5.heap.size,0,none⟩) 1 1 [v0,v1,v2,v3,v4,v5,v6,v7,v8,v9,v10,v11,v12,vD,vG,vn] rfl Eb.out sA.out (by simp only [maxLen];omega) (by omega) hsz ?_
                  intro v' w9 af
                  obtain⟨A9,c9,LJ,_⟩:=(zi.out v' w9 af).form
                  rw [PN.out]at LJ
                  subst LJ
                  have mB:=qqh (xB.out.push yC.out af (zi.out _ w9 af) hsz)
                  have cA:=af.below hsz yC.out
                  have x9:w9.cell? ⟨w.heap.size,0,none⟩=some (.slice Av al cv):=(cA.cell (p:=⟨w.heap.size,0,none⟩) (show w.heap.size<C+1 by omega)).trans (xB.out.res.cell 0)
                  have E1:an w9 w.heap.size 46 #[.slice Av al cv]:=(cA.block w.heap.size (by omega)).trans xB.out.res
                  have y9:=E1.frozen 0
                  have N7:=cA.size
                  clear af
                  try dsimp only
                  refine hK.out _ _ trivial (fun _=>?_)
                  clear hK K
                  try simp only [zp,za,z0,zs]
                  refine ax (i:=5) (by kernel_rfl) rfl (fun K hK=>?_)
                  go_simp
                  try dsimp only
                  refine hK.out _ _ trivial (fun _=>?_)
                  clear hK K
                  try simp only [Act.put,List.setIfInBounds_toArray,List.set_cons_zero,List.set_cons_succ]
                  refine aL (by kernel_rfl) ?_ _
                  go_wp2_with fail
                  go_meet
                  exact⟨_,mB.out,by simpa using Nat.le_trans hsz N7⟩
                · go_simp
                  go_at_call 36
                  refine(E0.out _ jq.out.cur).mono ?_
                  rintro e w5 ⟨⟨cs,rfl,hpx⟩,mu,eS⟩
                  obtain⟨v0,v1,v2,v3,v4,v5,v6,v7,v8,v9,v10,v11,v12,vD,vG,vn,rfl⟩:=oA hpx
                  have jr:=qqh (jq.out.step mu eS)
                  have Uf:C+1≤w5.heap.size:=Nat.le_trans Y8 eS.1
                  have wX:=qqh (eV.keep (X':=xA (C+1) C (.slice Av al cv)) (show aa w5 (vt w4.drew C) w5 (xA (C+1) C (.slice Av al cv)) from fun b h hl=>⟨rfl,⟨by have:=h.1;have h0:w4.drew.heap.size=w4.heap.size:=rfl;omega,h.2,Cu.out b (Nat.le_of_lt h.1)⟩,hl⟩) hpx)
                  have r5:=jr.out.res.cell 0
                  clear hpx mu eS
                  try dsimp only
                  refine hK.out _ _ trivial (fun _=>?_)
                  clear hK K
                  try simp only [Act.put,List.setIfInBounds_toArray,List.set_cons_zero,List.set_cons_succ]
                  refine dL (i:=0) (j:=3) (o:=⟨some 37,_,_,_,_,_⟩) (o2:=⟨some 40,_,_,_,_,_⟩) (by kernel_rfl) rfl rfl (fun K hK=>?_) (fun K hK=>?_)
                  · go_simp
                    try dsimp only
                    refine hK.out _ _ trivial (fun _=>?_)
                    clear hK K
                    try simp only [zp,za,z0,zs]
                    refine ax (i:=3) (o:=⟨some 40,_,_,_,_,_⟩) (by kernel_rfl) rfl (fun K hK=>?_)
                    have iG:Below w5.heap.size w5 (w5.alloc (.cells #[v0,v1,v2,v3,v4,v5,v6,v7,v8,v9,v10,v11,v12,vD,vG,vn] 83)):=qqb.alloc qql _
                    have xB:=qqh (jr.out.on iG)
                    have GC:=qqh (wX.out.keep (aa.any iG))
                    obtain⟨ys,gL,eM⟩:=xB.out.own.push p GC.out
                    rw [qu]at gL eM
                    have yC:=qqh gL
                    have zi:=qqh eM
                    have Eb:=qqh (Rd.new w5 83 16 1 [v0,v1,v2,v3,v4,v5,v6,v7,v8,v9,v10,v11,v12,vD,vG,vn] rfl)
                    have sA:=qqh wX.out.one.2
                    have hsz:C+1≤(w5.alloc (.cells #[v0,v1,v2,v3,v4,v5,v6,v7,v8,v9,v10,v11,v12,vD,vG,vn] 83)).heap.size:=Nat.le_trans Uf iG.size
                    have r8:(w5.alloc (.cells #[v0,v1,v2,v3,v4,v5,v6,v7,v8,v9,v10,v11,v12,vD,vG,vn] 83)).cell? ⟨w.heap.size,0,none⟩=some (.slice Av al cv):=xB.out.res.cell 0
                    clear iG gL eM
                    go_simp
                    try dsimp only
                    refine hK.out _ _ trivial (fun _=>?_)
                    clear hK K
                    try simp only [zp,za,z0,zs]
                    refine ax (i:=4) (o:=⟨some 41,_,_,_,_,_⟩) (by kernel_rfl) rfl (fun K hK=>?_)
                    refine aH _ rfl (.tmp 37) (.tmp 40) 46 rfl (C+1) 83 i0 _ 16 232 Tryz.underlying46 K9 u0 z1 z2 rfl (by decide) _ _ _ rfl yC.out (w5.heap.size+1) (some ⟨w5.heap.size,0,none⟩) 1 1 [v0,v1,v2,v3,v4,v5,v6,v7,v8,v9,v10,v11,v12,vD,vG,vn] rfl Eb.out sA.out (by simp only [maxLen];omega) (by omega) hsz ?_
                    intro v' w9 af
                    obtain⟨A9,c9,LJ,_⟩:=(zi.out v' w9 af).form
                    rw [PN.out]at LJ
                    subst LJ
                    have mB:=qqh (xB.out.push yC.out af (zi.out _ w9 af) hsz)
                    have cA:=af.below hsz yC.out
                    have x9:w9.cell? ⟨w.heap.size,0,none⟩=some (.slice Av al cv):=(cA.cell (p:=⟨w.heap.size,0,none⟩) (show w.heap.size<C+1 by omega)).trans (xB.out.res.cell 0)
                    have E1:an w9 w.heap.size 46 #[.slice Av al cv]:=(cA.block w.heap.size (by omega)).trans xB.out.res
                    have y9:=E1.frozen 0
                    have N7:=cA.size
                    clear af
                    try dsimp only
                    refine hK.out _ _ trivial (fun _=>?_)
                    clear hK K
                    try simp only [zp,za,z0,zs]
                    refine ax (i:=5) (by kernel_rfl) rfl (fun K hK=>?_)
                    go_simp
                    try dsimp only
                    refine hK.out _ _ trivial (fun _=>?_)
                    clear hK K
                    try simp only [Act.put,List.setIfInBounds_toArray,List.set_cons_zero,List.set_cons_succ]
                    refine aL (by kernel_rfl) ?_ _
                    go_wp2_with fail
                    go_meet
                    exact⟨_,mB.out,by simpa using Nat.le_trans hsz N7⟩
                  · have iG:Below w5.heap.size w5 (w5.alloc (.cells #[v0,v1,v2,v3,v4,v5,v6,v7,v8,v9,v10,v11,v12,vD,vG,vn] 83)):=qqb.alloc qql _
                    have xB:=qqh (jr.out.on iG)
                    have GC:=qqh (wX.out.keep (aa.any iG))
                    obtain⟨ys,gL,eM⟩:=xB.out.own.push p GC.out
                    rw [qu]at gL eM
                    have yC:=qqh gL
                    have zi:=qqh eM
                    have Eb:=qqh (Rd.new w5 83 16 1 [v0,v1,v2,v3,v4,v5,v6,v7,v8,v9,v10,v11,v12,vD,vG,vn] rfl)
                    have sA:=qqh wX.out.one.2
                    have hsz:C+1≤(w5.alloc (.cells #[v0,v1,v2,v3,v4,v5,v6,v7,v8,v9,v10,v11,v12,vD,vG,vn] 83)).heap.size:=Nat.le_trans Uf iG.size
                    have r8:(w5.alloc (.cells #[v0,v1,v2,v3,v4,v5,v6,v7,v8,v9,v10,v11,v12,vD,vG,vn] 83)).cell? ⟨w.heap.size,0,none⟩=some (.slice Av al cv):=xB.out.res.cell 0
                    clear iG gL eM
                    go_simp
                    try dsimp only
                    refine hK.out _ _ trivial (fun _=>?_)
                    clear hK K
                    try simp only [Act.put,List.setIfInBounds_toArray,List.set_cons_zero,List.set_cons_succ]
                    refine ax (i:=0) (o:=⟨some 37,_,_,_,_,_⟩) (by kernel_rfl) rfl (fun K hK=>?_)
                    go_simp
                    try dsimp only
                    refine hK.out _ _ trivial (fun _=>?_)
                    clear hK K
                    try simp only [zp,za,z0,zs]
                    refine ax (i:=4) (o:=⟨some 41,_,_,_,_,_⟩) (by kernel_rfl) rfl (fun K hK=>?_)
                    refine aH _ rfl (.tmp 37) (.tmp 40) 46 rfl (C+1) 83 i0 _ 16 232 Tryz.underlying46 K9 u0 z1 z2 rfl (by decide) _ _ _ rfl yC.out (w5.heap.size+1) (some ⟨w5.heap.size,0,none⟩) 1 1 [v0,v1,v2,v3,v4,v5,v6,v7,v8,v9,v10,v11,v12,vD,vG,vn] rfl Eb.out sA.out (by simp only [maxLen];omega) (by omega) hsz ?_
                    intro v' w9 af
                    obtain⟨A9,c9,LJ,_⟩:=(zi.out v' w9 af).form
                    rw [PN.out]at LJ
                    subst LJ
                    have mB:=qqh (xB.out.push yC.out af (zi.out _ w9 af) hsz)
                    have cA:=af.below hsz yC.out
                    have x9:w9.cell? ⟨w.heap.size,0,none⟩=some (.slice Av al cv):=(cA.cell (p:=⟨w.heap.size,0,none⟩) (show w.heap.size<C+1 by omega)).trans (xB.out.res.cell 0)
                    have E1:an w9 w.heap.size 46 #[.slice Av al cv]:=(cA.block w.heap.size (by omega)).trans xB.out.res
                    have y9:=E1.frozen 0
                    have N7:=cA.size
                    clear af
                    try dsimp only
                    refine hK.out _ _ trivial (fun _=>?_)
                    clear hK K
                    try simp only [zp,za,z0,zs]
                    refine ax (i:=5) (by kernel_rfl) rfl (fun K hK=>?_)
                    go_simp
                    try dsimp only
                    refine hK.out _ _ trivial (fun _=>?_)
                    clear hK K
                    try simp only [Act.put,List.setIfInBounds_toArray,List.set_cons_zero,List.set_cons_succ]
                    refine aL (by kernel_rfl) ?_ _
                    go_wp2_with fail
                    go_meet
                    exact⟨_,mB.out,by simpa using Nat.le_trans hsz N7⟩
              -- ok}
            case rest=>
              obtain⟨v6,Vb,hC6⟩:=hcut
              have tS:=qqh Vb
              have agm:al<200:=by have:=HM.out;omega
              clear Vb r4
              go_wp2_with fail
              refine(pS.out _ j2 tS.out.cur).mono ?_
              rintro e w7 ⟨rfl,rz,iV⟩
              have uV:=qqh (tS.out.step rz iV)
              have hC7:C+1≤w7.heap.size:=Nat.le_trans hC6 iV.1
              clear rz iV
              obtain⟨b,hb⟩:∃ b,aD L j2=b:=⟨_,rfl⟩
              have HB:=qqh hb
              rw [hb]at uV
              clear hb
              have PO:=qqh (Kx.out _ b 59 uV.out.cur (by decide))
              cases hnd:bw L b 59 with
              | error e0=>
                obtain⟨x,q⟩:=e0
                have HE:=qqh (dh.out.trans (Fh (by rw [HA.out];have:=HNG.out;omega) (by rw [qu];exact HM.out) (by rw [HA.out];exact HP.out) (by rw [HB.out];exact hnd)))
                have mF:=qqh (kX.out x q HE.out)
                have hx:=HXN.out x q HE.out
                rw [hnd]at PO
                clear hnd
                go_wp2_with fail
                refine PO.out.mono ?_
                rintro e w8 ⟨he,iG⟩
                unfold bA at he
                subst he
                have hr8:=(iG.2.2.2.2 _ uV.out.res.lt (by omega)).trans uV.out.res
                have YM:=(iG.2.2.2.2 _ uV.out.flt.lt (by omega)).trans uV.out.flt
                have ZH:=qqh hr8
                have yd:=qqh YM
                have qZ:=qqh (uV.out.below.trans (iG.to uV.out.below.size (by omega)))
                clear iG hr8 YM
                go_wp2_with fail
                refine ij _ (w.heap.size+1) w.heap.size w.heap.size x q 0 0 _ _ _ _ _ rfl rfl yd.out ZH.out (by omega) (by omega) qql qZ.out.size hx (fun W2 aX=>?_)
                rw [mF.out]
                exact⟨⟨none,0,0,rfl,iE.nil _ _,qql⟩,qZ.out.trans aX⟩
              | ok k=>
                have cQ:=qqh (dh.out.trans (FQ (by rw [HA.out];have:=HNG.out;omega) (by rw [qu];exact HM.out) (by rw [HA.out];exact HP.out) (by rw [HB.out];exact hnd)))
                have HKB:=qqh (show k=b+1 from(gE hnd).1)
                have j6:=qqh (MX HV.out.ok (by rw [K1.out];exact han) HP.out)
                rw [hnd]at PO
                clear hnd
                go_wp2_with fail
                refine PO.out.mono ?_
                rintro e w8 ⟨rfl,H9,iG⟩
                have yd:=qqh (uV.out.step H9 iG)
                have hC8:C+1≤w8.heap.size:=Nat.le_trans hC7 iG.1
                clear H9 iG
                go_wp2_with fail
                refine(pS.out _ k yd.out.cur).mono ?_
                rintro e w9 ⟨rfl,ES,cA⟩
                have mB:=qqh (yd.out.step ES cA)
                have hC9:C+1≤w9.heap.size:=Nat.le_trans hC8 cA.1
                clear ES cA
                go_wp2_with fail
                have hge:a≤b:=by have h1:=j6.out.1;have h2:=dP L j2;rw [HB.out]at h2;omega
                have hkb:=HKB.out
                have hkn:=yd.out.cur.le
                refine⟨⟨f,k,acc++[p],v6,hkn,by omega,cQ.out,by rw [List.length_append,qu];simp;omega,mB.out,hC9⟩,?_⟩
                have e1:w9.cell? ⟨C,1,none⟩=some (.int .i64 ((aD L k:Nat):Int)):=mB.out.cur.blk.cell 1
                have e2:=nc.out
                have hle:=mB.out.cur.le
                have ahg:=dP L k
                rw [e1,e2]
                simp only [Int.toNat_natCast,List.getElem?_toArray,List.getElem?_cons_succ,List.getElem?_cons_zero]
                omega
end Go.Proofs.YtamkjeipdjbemaaGreatDoor
namespace Go.Proofs.YtamkjeipdjbemaaGreatDoor
open Go.RowKit Go.Shelf
noncomputable def iZ (k:Nat):ByteArray:=files.getD (k*2) ⟨#[]⟩
noncomputable def uj (k:Nat):ByteArray:=files.getD (k*2+1) ⟨#[]⟩
noncomputable def mz:List ByteArray:=(List.range 18).map iZ
noncomputable def sV (k:Nat):List aK:=(jB (dw (uj k) 0)).1
noncomputable def QU (k:Nat) (back:Bool):aR:=(cY back (sV k)).1
noncomputable def Rn (k:Nat):Bool:=decide (placeOf (iZ k) files 0=k) && Nat.ble (uj k).size 100000 && decide ((jB (dw (uj k) 0)).2=(0,0)) && Nat.ble (sV k).length 200 && decide ((cY true (sV k)).2=(0,0)) && oB (QU k false) && oB (QU k true)
theorem Ff:(List.range 18).all Rn=true:=by kernel_rfl
theorem Qs {k:Nat} (h:k<18):placeOf (iZ k) files 0=k∧(uj k).size≤100000∧(jB (dw (uj k) 0)).2=(0,0)∧(sV k).length≤200∧∀ back,(cY back (sV k)).2=(0,0)∧oB (QU k back)=true:=by
 have h1:=List.all_eq_true.1 Ff k (List.mem_range.2 h);unfold Rn at h1;simp only [Bool.and_eq_true,decide_eq_true_eq]at h1;obtain⟨⟨⟨⟨⟨⟨a1,a2⟩,a3⟩,a4⟩,a5⟩,a6⟩,a7⟩:=h1;refine⟨a1,Nat.le_of_ble_eq_true a2,a3,Nat.le_of_ble_eq_true a4,fun back=>?_⟩;cases back;exact⟨by rw [← ou];exact a5,a6⟩;exact⟨a5,a7⟩
theorem Hu (k:Nat) (hk:k<18) (back:Bool) (w:World):Calls Tryz.prog 6 #[.string (iZ k),.bool back] w (AK w (QU k back)):=by
 obtain⟨h1,h2,h3,h4,h5⟩:=Qs hk;refine KE (iZ k) (uj k) back k hk h1 ?_ (sV k) h4 (QU k back) (by rw [← (h5 back).1];rfl) (h5 back).2 (fun W=>?_) (fun A n c W hn h=>?_) w
 ·unfold uj;have h:k*2+1<files.length:=(by rw [pE];omega);rw [List.getElem?_eq_getElem h,List.getD_eq_getElem?_getD,List.getElem?_eq_getElem h];rfl
 ·have h:=Gj (uj k) W (by omega);unfold zK at h;rw [h3]at h;refine h.mono ?_;rintro e w' ⟨⟨A,n,c,h1,h2,_⟩,hb⟩;exact⟨⟨A,n,c,h1,h2⟩,hb⟩
 cases back;exact Iz W.heap.size A n c _ W hn qql h;exact LM W.heap.size A n c _ W hn qql h
def LL:ByteArray:=⟨#[103,114,195,188,110]⟩
def Bv:ByteArray:=⟨#[103,101,114,109,97,110]⟩
theorem FY:dw LL 0 = [103,114,252,110]:=by kernel_rfl
theorem OX:KL (QU 7 false) [103,114,252,110] =([103,114,117,101,110],(0,0)):=by kernel_rfl
theorem Dn:iZ 7=Bv:=by kernel_rfl
theorem Jx:YW [103,114,117,101,110] =⟨#[103,114,117,101,110]⟩:=by kernel_rfl
theorem FD (w:World):Calls Tryz.prog 10 #[.string Bv,.bool false,.string LL] w fun e w'=>e=.returned (.tuple #[.string ⟨#[103,114,117,101,110]⟩,.int .i64 0])∧Below w.heap.size w w':=by
 have h:=P8 Bv false LL (by decide) (QU 7 false) [103,114,117,101,110] (by rw [FY];exact OX) (by decide) (by decide) (fun W=>by rw [← Dn];exact Hu 7 (by omega) false W) w;unfold Ed at h;rw [Jx]at h;exact h
theorem Jk:mz.length=18:=by simp [mz]
theorem EA {k:Nat} (h:k<18):mz[k]? = some (iZ k):=by
 unfold mz;rw [List.getElem?_map,List.getElem?_range h];rfl
theorem Fy {k:Nat} (h:k<18):fY (mz.take (k+1))=fY (mz.take k)++[.string (iZ k)]:=by
 rw [List.take_add_one,EA h];simp [fY]
theorem N0 {k:Nat} (h:k<18):files[k*2]? = some (iZ k):=by
 have h1:k*2<files.length:=(by rw [pE];omega);unfold iZ;rw [List.getElem?_eq_getElem h1,List.getD_eq_getElem?_getD,List.getElem?_eq_getElem h1];rfl
theorem El (w:World):Calls Tryz.prog 5 #[] w fun e w'=>(∃ A c,e=.returned (.slice A 18 c)∧Rd w' w'.heap.size 1 A 18 (fY mz))∧Below w.heap.size w w':=by
 obtain⟨i0,hi,hz0,i6,kO⟩:=info_parts Pq;have HF:=qqh (fun(k:Nat) (h:k<18)=>N0 h);have HG:=qqh (fun(k:Nat) (h:k<18)=>show ∃ x,files[k*2+1]? = some x from⟨_,List.getElem?_eq_getElem (by rw [pE];omega)⟩);have HT:=qqh (fun(k:Nat) (h:k<18)=>Fy h);have Og:=qqh (Lc w);have zf:=qqh (show fY (mz.take 18)=fY mz by rw [List.take_of_length_le (by rw [Jk];exact qql)]);generalize mz=NL at *;generalize files=L at *;go_enter Tryz.func5,Tryz.ntmps5;go_wp2_with fail;refine Og.out.mono ?_;rintro e w1 ⟨⟨A,c,rfl,hr⟩,aP⟩;have HR:=qqh hr;have bF:=qqh aP;clear hr aP Og;go_wp2_with fail;go_loopw [1,6] (fun o i wr=>∃ k:Nat,k≤18∧i=.int .i64 k∧wr.ownsRow w1.heap.size 9 1 o k (fY (NL.take k))∧Below w1.heap.size w1 wr) (fun _ i _=>18 - (intOf i).toNat);(case atStart=>exact⟨0,by omega,rfl,by simpa [fY] using World.ownsRow_nil _ _ _ _,qqb⟩);obtain⟨k,hk,rfl,ho,hb⟩:=hrel;have HO:=qqh ho;have HB:=qqh hb;obtain⟨Ao,co,rfl,_⟩:=av ho;by_cases hlt:k<18
 ·obtain⟨x,hx⟩:=HG.out k hlt;obtain⟨b,off,rfl,cK,hcells⟩:=HR.out.2 (by omega);have d0:wr.cell? ⟨b,off+k*2,none⟩=some (.string (iZ k)):=(hb.cell (p:=⟨b,off+k*2,none⟩) cK).trans (hcells (k*2) _ (by rw [mW,HF.out k hlt];rfl));have d1:wr.cell? ⟨b,off+k*2+1,none⟩=some (.string x):=(hb.cell (p:=⟨b,off+k*2+1,none⟩) cK).trans (hcells (k*2+1) _ (by rw [mW,hx];rfl));have Qr:=qqh (HT.out k hlt);clear hcells hx ho hb cK;have Uc:=Rd.new (wr.alloc (.cells #[.string (iZ k),.string x] 44)) 9 1 1 [.string (iZ k)] rfl;rw [show(wr.alloc (.cells #[.string (iZ k),.string x] 44)).heap.size=wr.heap.size+1 by simp]at Uc;have vF:=qqh Uc;clear Uc;have nM:=qqh (World.ownsRow.alloc (World.ownsRow.alloc HO.out (.cells #[.string (iZ k),.string x] 44)) (.cells #[.string (iZ k)] 9));have HW1:=qqh (((Below.refl wr.heap.size wr).alloc qql (.cells #[.string (iZ k),.string x] 44)).alloc (by simp) (.cells #[.string (iZ k)] 9));go_wp2_with (at_builtin;refine aj _ rfl (.tmp 10) (.tmp 13) 24 rfl w1.heap.size 9 i0 _ 1 16 Tryz.underlying24 hi hz0 i6 kO rfl (by decide) _ _ _ rfl nM.out ((wr.heap.size+1)+1) (some ⟨(wr.heap.size+1),0,none⟩) 1 1 [.string (iZ k)] rfl vF.out ?s1 (by simp only [maxLen];omega) (by omega) ?s2 ?_);(case s1=>intro u hu;simp at hu;subst hu;rfl);(case s2=>have:=HB.out.size;simp;omega);intro v1 w2 af;have hs0:=HB.out.size;have bf:=qqh ((HB.out.trans (HW1.out.mono HB.out.size)).trans ((af.below (by simp;omega) nM.out)));have rC:=qqh (show w2.ownsRow w1.heap.size 9 1 v1 (k+1) (fY (NL.take (k+1))) by rw [Qr.out];exact af.own);clear af;go_wp2_with fail
  exact⟨⟨k+1,by omega,by go_num,rC.out,bf.out⟩,by simp [intOf];omega⟩
 obtain rfl:k=18:=(by omega);have X4:=qqh (show Rd wr wr.heap.size 1 Ao 18 (fY NL) by
  have h:=Rd.b8 ho;rw [zf.out]at h;exact h)
 clear ho hb;go_wp2_with fail;go_ret;exact⟨⟨_,_,rfl,X4.out⟩,bF.out.trans (HB.out.mono bF.out.size)⟩
theorem Ge (w:World):Calls Tryz.prog 4 #[] w fun e w'=>e=.returned (.bool true)∧Below w.heap.size w w':=by
 have HTU:=qqh (FD w);go_enter Tryz.func4,Tryz.ntmps4;go_wp2_with fail;refine HTU.out.mono ?_;rintro e w1 ⟨rfl,aP⟩;have bF:=qqh aP;clear aP;go_wp2_with fail;refine(El _).mono ?_;rintro e w2 ⟨⟨A,c,rfl,_⟩,aX⟩;have bf:=qqh (bF.out.trans (aX.mono bF.out.size));clear aX;go_wp2_with fail;go_ret;exact⟨rfl,bf.out⟩
theorem B5 (which:Int) (back:Bool) (t:List Int) (At:Option Addr) (nt ct:Nat) (w:World) (h0 : -9223372036854775808≤which) (h9:which≤9223372036854775807) (hnc:nt≤ct) (hnt:nt≤maxLen) (ht:mg w w.heap.size At nt t) :
    Calls Tryz.prog 3 #[.int .i64 which,.bool back,.slice At nt ct] w fun e w'=>e=.returned (.bool true)∧Below w.heap.size w w':=by
 have sK:=qqh (fun(W:World) (hb:Below w.heap.size w W)=>show mg W W.heap.size At nt t from(Rd.below ht hb).more hb.size);have HNT:=qqh (show nt≤maxLen from hnt);have HA:=qqh (Ge w);have HNA:=qqh (fun(k:Nat) (h:k<18)=>EA h);have HFI:=qqh (fun(k:Nat) (h:k<18) (W:World)=>Hu k h back W);clear ht hnt;go_enter Tryz.func3,Tryz.ntmps3;go_wp2_with fail;refine HA.out.mono ?_;rintro e w1 ⟨rfl,aP⟩;have bF:=qqh aP;clear aP;go_wp2_with fail;refine(El _).mono ?_;rintro e w2 ⟨⟨A,c,rfl,hr⟩,aX⟩;have bf:=qqh (bF.out.trans (aX.mono bF.out.size));have HR:=qqh hr;clear aX hr;go_upto_region 4 with fail;by_cases hlo:which<0
 ·go_wp2_with fail;go_ret;exact⟨rfl,bf.out⟩
 by_cases hhi:18≤which
 ·go_wp2_with fail;go_ret;exact⟨rfl,bf.out⟩
 obtain⟨k,rfl⟩:∃ k:Nat,which=k:=⟨which.toNat,by omega⟩;have hk:k<18:=(by omega);obtain⟨b,off,rfl,cK,hcells⟩:=HR.out.2 (by omega);have d0:w2.cell? ⟨b,off+k,none⟩=some (.string (iZ k)):=hcells k _ (by rw [mW,HNA.out k hk];rfl);clear hcells cK;go_wp2_with fail;refine(HFI.out k hk w2).mono ?_;rintro e w3 ⟨⟨cs,rfl,hcs⟩,bM⟩;obtain⟨A1,n1,c1,A2,n2,c2,rfl⟩:=nA hcs;generalize QU k back=s at *;have hba:=(Below.refl w3.heap.size w3).alloc qql (.cells #[.bool s.only?,.slice A1 n1 c1,.slice A2 n2 c2] 29);have cy:=qqh ((bf.out.trans (bM.mono bf.out.size)).trans (hba.mono (bf.out.trans (bM.mono bf.out.size)).size));have pN:=qqh (an.new w3 29 #[.bool s.only?,.slice A1 n1 c1,.slice A2 n2 c2]);have EY:=qqh (dW.at2 (hcs.keep (aa.below hba (X':=fun _=>True) (fun _ _ _=>trivial))));clear d0 bM hba hcs bf HR HFI HNA;go_upto_region 7 with fail;generalize w3.alloc (.cells #[.bool s.only?,.slice A1 n1 c1,.slice A2 n2 c2] 29)=W0 at *;have H1:=qqh (DF (fun _=>True) s t A1 A2 At n1 c1 n2 c2 nt ct W0 EY.out hnc HNT.out (sK.out W0 cy.out));have H2:=qqh (fun(W:World) (hb:Below W0.heap.size W0 W)=>Lu (fun _=>True) s t A1 A2 At n1 c1 n2 c2 nt ct W (EY.out.keep (aa.below hb (X':=fun _=>True) (fun _ _ _=>trivial))) HNT.out (sK.out W (cy.out.trans (hb.mono cy.out.size))));have x0:W0.cell? ⟨w3.heap.size,0,none⟩=some (.bool s.only?):=pN.out.cell 0;have x1:W0.cell? ⟨w3.heap.size,1,none⟩=some (.slice A1 n1 c1):=pN.out.cell 1;have x2:W0.cell? ⟨w3.heap.size,2,none⟩=some (.slice A2 n2 c2):=pN.out.cell 2;go_wp2_with fail;refine H1.out.mono ?_;rintro e w4 ⟨⟨B1,m1,k1,rfl,Bw⟩,aP⟩;rw [← xk]at Bw ⊢;obtain⟨o,f1,f2,ho⟩:∃ o f1 f2,rV s t=(o,(f1,f2)):=⟨_,_,_,rfl⟩
 have HOL:=qqh (show o.length≤4000 by have:=go_small s t;rw [← xk,ho]at this;exact this);rw [ho]at H2 Bw ⊢;dsimp only at H2 Bw ⊢;have hba:=(Below.refl w4.heap.size w4).alloc qql (.cells #[.int .i64 f1,.int .i64 f2] 34);have bF:=qqh (show Below W0.heap.size W0 _ from aP.trans (hba.mono aP.size));have gX:=qqh (Rd.below Bw.of hba);have sL:=qqh (an.below (an.below pN.out aP pN.out.lt) hba (Nat.lt_of_lt_of_le pN.out.lt aP.size));have eW:=qqh (an.new w4 34 #[.int .i64 f1,.int .i64 f2]);clear aP hba Bw H1 x0 x1 x2 pN ho;go_upto_region 10 with fail;generalize w4.alloc (.cells #[.int .i64 f1,.int .i64 f2] 34)=W1 at *;have x0:W1.cell? ⟨w3.heap.size,0,none⟩=some (.bool s.only?):=sL.out.cell 0;have x1:W1.cell? ⟨w3.heap.size,1,none⟩=some (.slice A1 n1 c1):=sL.out.cell 1;have x2:W1.cell? ⟨w3.heap.size,2,none⟩=some (.slice A2 n2 c2):=sL.out.cell 2;go_wp2_with fail;refine(H2.out W1 bF.out).mono ?_;rintro e w5 ⟨⟨B2,m2,k2,rfl,i4⟩,aX⟩;dsimp only at i4 ⊢;have hba:=(Below.refl w5.heap.size w5).alloc qql (.cells #[.int .i64 f1,.int .i64 f2] 34);have cK:=aX.trans (hba.mono aX.size);have bf:=qqh (bF.out.trans (cK.mono bF.out.size));have iz:=qqh (Rd.below i4.of hba);have hw1:=eW.out.lt;have V5:=qqh (Rd.below gX.out (cK.mono (by omega)));have eC:=qqh (an.below eW.out cK eW.out.lt);have jZ:=qqh (an.new w5 34 #[.int .i64 f1,.int .i64 f2]);have ya:W1.heap.size≤w5.heap.size:=aX.size;clear aX hba cK i4 H2 x0 x1 x2 sL gX;go_upto_region 11 with fail;generalize w5.alloc (.cells #[.int .i64 f1,.int .i64 f2] 34)=W2 at *;have ER:=jZ.out.lt;have a0:=eC.out.cell 0;have a1:=eC.out.cell 1;have b0:=jZ.out.cell 0;have b1:=jZ.out.cell 1
 have UZ:=V5.out.1;rw [runeCells_length]at UZ;have hol:=HOL.out;have IG:=qqh (fun(W:World) (hb:Below W2.heap.size W2 W)=>L9 B1 B2 m1 m2 k1 k2 o o W (by omega) (Rd.more (Rd.below V5.out (hb.mono (by omega))) (by have:=hb.size;omega)) (Rd.more (Rd.below iz.out (hb.mono (by omega))) (by have:=hb.size;omega)));have Ux:=qqh (Below.refl W2.heap.size W2);clear UZ hol;go_wp2_with fail;refine(IG.out _ Ux.out).mono ?_;rintro e w6 ⟨rfl,q6,h6⟩;rw [show(o == o)=true by simp];have iQ:=qqh (show Below W2.heap.size W2 w6 by rw [h6];exact below_drewN Ux.out q6);clear h6;go_wp2_with fail;go_ret;exact⟨rfl,(cy.out.trans (bf.out.mono cy.out.size)).trans (iQ.out.mono (cy.out.trans (bf.out.mono cy.out.size)).size)⟩
end Go.Proofs.YtamkjeipdjbemaaGreatDoor
