/- Script + ChainAll + RefRunAll + ChainGoAll -/
import Derived.Test.YthgkedoildcbcaaGreatDoorZg34
import Derived.Deep.RegionWith
import Derived.Test.YthgkedoildcbcaaGreatDoorZg29
import Derived.BigRegion
set_option maxHeartbeats 12800000
set_option maxRecDepth 100000
namespace Go.Proofs.YthgkedoildcbcaaGreatDoor
open Go.RowKit
theorem nQ {w:World} {g:Nat} {t:TypeId} {cs:Array Value} (h:ai w g t cs):ai w.drew g t cs:=h
def isNone (s:ByteArray):Bool:=s.toList == []
def iO (p:cB):Int:=if isNone p.name=true then (cz p.rules).1 else if jD p.name=false then 7 else if 0<p.rules.length then 8 else 0
def fD:Nat→List cB→Int × Int
  | _,[]=>(0,0)
  | k,p::l=>if iO p≠0 then (iO p,(k:Int))else fD (k+1) l
def cT (s:bS):Int × Int :=
  if s.only? = true∧bA s.only≠0 then (bA s.only,0)else if 60<s.passes.length then (5,0)else fD 0 s.passes
structure iA (w:World) (X:Nat→Prop) (s:bS) (A1:Option Addr) (n1:Nat) (A2:Option Addr) (n2:Nat):Prop where
  only:cE w X 2 A1 n1 (ak s.only)
  pas:bH (cX w X) w X 2 A2 n2 s.passes
  m1:n1≤maxLen
  m2:n2≤maxLen
theorem iA.keep {w w':World} {X X':Nat→Prop} {s:bS} {A1 A2:Option Addr} {n1 n2:Nat} (hk:aa w X w' X') (h:iA w X s A1 n1 A2 n2):iA w' X' s A1 n1 A2 n2 :=
  ⟨h.only.keep hk,h.pas.keep hk (fun _ _=>cX.keep hk),h.m1,h.m2⟩
theorem ql {w:World} {X:Nat→Prop} {A:Option Addr} {n:Nat} {l:List cB} (h:bH (cX w X) w X 2 A n l) {k:Nat} {p:cB} (hk:l[k]? = some p) :
    ∃ (b off:Nat) (A':Option Addr) (n' c':Nat),A=some ⟨b,off,none⟩∧X b∧b<w.heap.size∧w.cell? ⟨b,off+k*2,none⟩=some (.string p.name)∧w.cell? ⟨b,off+k*2+1,none⟩=some (.slice A' n' c')∧bH (aW w X) w X 7 A' n' p.rules∧n'≤maxLen:=by
 obtain⟨b,off,cs,e,hx,hb,⟨u,rfl,A',n',c',rfl,h1,h2⟩,_,hc⟩:=h.at hk;have c0:=hc 0 _ rfl;have c1:=hc 1 _ rfl;rw [Nat.add_zero]at c0;exact⟨b,off,A',n',c',e,hx,hb,c0,c1,h1,h2⟩
theorem td (a b:Int) (w:World):(Instr.field 32 (.agg #[.int .i64 a,.int .i64 b]) 0).run Tryz.prog w=.ok (.int .i64 a) w:=by kernel_rfl
def OI (w:World) (s:bS) (n:Nat) (i:Value) (wr:World):Prop :=
  ∃ k:Nat,k≤n∧i=.int .i64 k∧fD 0 s.passes=fD k (s.passes.drop k)∧ai wr (w.heap.size+1) 32 #[.int .i64 0,.int .i64 0]∧Below w.heap.size w wr
theorem Cn (X:Nat→Prop) (s:bS) (A1 A2:Option Addr) (n1 c1 n2 c2:Nat) (w:World) (hs:iA w X s A1 n1 A2 n2) :
    Calls Tryz.prog 38 #[.agg #[.bool s.only?,.slice A1 n1 c1,.slice A2 n2 c2]] w fun e w'=>e=.returned (.agg #[.int .i64 (cT s).1,.int .i64 (cT s).2])∧Below w.heap.size w w':=by
 have Wf:=hs.m1;have hm2:=hs.m2;have aO:=qqh (show s.passes.length=n2 from hs.pas.len);have HS:=qqh hs;have HX:=qqh (ai.alloc (ai.new w 53 #[.bool s.only?,.slice A1 n1 c1,.slice A2 n2 c2]) (.cells #[.int .i64 0,.int .i64 0] 32));have HF:=qqh (show ai ((w.alloc (.cells #[.bool s.only?,.slice A1 n1 c1,.slice A2 n2 c2] 53)).alloc (.cells #[.int .i64 0,.int .i64 0] 32)) (w.heap.size+1) 32 #[.int .i64 0,.int .i64 0] by
  have:=ai.new (w.alloc (.cells #[.bool s.only?,.slice A1 n1 c1,.slice A2 n2 c2] 53)) 32 #[.int .i64 0,.int .i64 0];simpa using this)
 have HB:=qqh (((Below.refl w.heap.size w).alloc (Nat.le_refl _) (.cells #[.bool s.only?,.slice A1 n1 c1,.slice A2 n2 c2] 53)).alloc (by simp) (.cells #[.int .i64 0,.int .i64 0] 32));simp only [maxLen]at Wf hm2;clear hs;go_enter Tryz.func38,Tryz.ntmps38;go_upto_region 1 with fail;generalize (w.alloc (.cells #[.bool s.only?,.slice A1 n1 c1,.slice A2 n2 c2] 53)).alloc (.cells #[.int .i64 0,.int .i64 0] 32)=W0 at *;have x0:W0.cell? ⟨w.heap.size,0,none⟩=some (.bool s.only?):=HX.out.cell 0;cases ho:s.only?
 ·have ME:=qqh (show cT s=if 60<s.passes.length then (5,0)else fD 0 s.passes by unfold cT;rw [if_neg (by rw [ho];intro h;cases h.1)]);rw [ho]at x0;clear ho;have x2:W0.cell? ⟨w.heap.size,2,none⟩=some (.slice A2 n2 c2):=HX.out.cell 2;have y0:=HF.out.cell 0;have y1:=HF.out.cell 1;have g0:=HF.out.frozen 0;have g1:=HF.out.frozen 1;by_cases yU:60<n2
  ·have HG:=qqh (show cT s=(5,0) by rw [ME.out,if_pos (by rw [aO.out];exact yU)]);have hgt:decide ((60:Int)<(n2:Int))=true:=decide_eq_true (by omega);go_wp2_with fail;rw [HG.out];exact bodyPost_ret (v:=.agg #[.int .i64 5,.int .i64 0]) (by simp [results,Tryz.results38,go_sem,y0,y1]) rfl ⟨rfl,(HB.out.setCell (by simp) _).setCell (by simp) _⟩
  have J2:=qqh (show cT s=fD 0 s.passes by rw [ME.out,if_neg (by rw [aO.out];exact yU)]);have hgt:decide ((60:Int)<(n2:Int))=false:=decide_eq_false (by omega);clear ME y0 y1 g0 g1;go_wp2_with fail;go_loopw [24] (OI w s n2) (fun i _=>n2 - (intOf i).toNat);(case atStart=>exact⟨0,Nat.zero_le _,rfl,rfl,HF.out,HB.out⟩);obtain⟨k,hk,rfl,aV,hf,hb⟩:=hrel;have hz:=hb.size;by_cases hlt:k<n2
  ·obtain⟨p,hp⟩:∃ z,s.passes[k]? = some z:=⟨_,List.getElem?_eq_getElem (by rw [aO.out];exact hlt)⟩;obtain⟨b,off,A',n',c',rfl,_,cC,e0,e1,hr,hn'⟩:=ql (HS.out.pas.keep (aa.any hb) (fun _ _=>cX.keep (aa.any hb))) hp;rw [cW hp,fD]at aV;have dQ:=qqh aV;have hba:=(Below.refl wr.heap.size wr).alloc (Nat.le_refl _) (.cells #[.string p.name,.slice A' n' c'] 59);have HR:=qqh (hr.keep (aa.any hba) (fun _ _=>aW.keep (aa.any hba)));have eT:=qqh (hf.alloc (.cells #[.string p.name,.slice A' n' c'] 59));have bw:=qqh (hb.trans (hba.mono hz));have HP:=qqh (ai.new wr 59 #[.string p.name,.slice A' n' c']);have sC:=qqh (show p.rules.length=n' from hr.len);clear aV hr hf hb hba hp;go_upto_region 10 with fail;generalize hW:wr.alloc (.cells #[.string p.name,.slice A' n' c'] 59)=W at *;have hwz:wr.heap.size<W.heap.size:=HP.out.lt;clear hW e0 e1;have p0:W.cell? ⟨wr.heap.size,0,none⟩=some (.string p.name):=HP.out.cell 0;have p1:W.cell? ⟨wr.heap.size,1,none⟩=some (.slice A' n' c'):=HP.out.cell 1;have y0:=eT.out.cell 0;have y1:=eT.out.cell 1;have g0:=eT.out.frozen 0;have g1:=eT.out.frozen 1;cases en:isNone p.name
   ·have en1:(p.name.toList == [])=false:=en;have Gc:=qqh (show iO p=if jD p.name=false then 7 else if 0<p.rules.length then 8 else 0 by unfold iO;rw [en];rfl);clear en;obtain⟨pb,hpb⟩:∃ pb,jD p.name=pb:=⟨_,rfl⟩;have Qs:=qqh hpb;rw [hpb]at Gc;clear hpb;have bF:=qqh (fun(q:Nat)=>below_drewN (bw.out.alloc bw.out.size (.cells #[.string fu,.string ke,.string gI,.string fo] 9)) q);have eo:=qqh (eT.out.alloc (.cells #[.string fu,.string ke,.string gI,.string fo] 9));have ic:=qqh (HP.out.alloc (.cells #[.string fu,.string ke,.string gI,.string fo] 9));go_upto_region 13 with fail;go_region_with (first | (go_at_call 57;refine(iq _).mono ?_;rintro e w' ⟨rfl,rfl⟩) | (go_at_call 56;refine(qf _ p.name _ Qs.out _ (nQ (ai.new _ _ _))).mono ?_;rintro e w' ⟨rfl,rfl⟩))
    all_goals
      have y0:=eo.out.cell 0
      have y1:=eo.out.cell 1
      have g0:=eo.out.frozen 0
      have g1:=eo.out.frozen 1
      have p0:=ic.out.cell 0
      have p1:=ic.out.cell 1
      cases pb
      · have HG:=qqh (show cT s=(7,(k:Int)) by rw [J2.out,dQ.out,(show iO p=7 by rw [Gc.out,if_pos rfl]),if_pos (by decide)])
        go_wp2_with fail
        rw [HG.out]
        exact bodyPost_ret (v:=.agg #[.int .i64 7,.int .i64 k]) (by simp [results,Tryz.results38,go_sem,y0,y1]) rfl ⟨rfl,((bF.out _).setCell (by simp) _).setCell (by simp) _⟩
      · by_cases h0:0<n'
        · have HG:=qqh (show cT s=(8,(k:Int)) by rw [J2.out,dQ.out,(show iO p=8 by rw [Gc.out,if_neg (by decide),if_pos (by rw [sC.out];exact h0)]),if_pos (by decide)])
          go_wp2_with fail
          rw [HG.out]
          exact bodyPost_ret (v:=.agg #[.int .i64 8,.int .i64 k]) (by simp [results,Tryz.results38,go_sem,y0,y1]) rfl ⟨rfl,((bF.out _).setCell (by simp) _).setCell (by simp) _⟩
        · have HZ:=qqh (show iO p=0 by rw [Gc.out,if_neg (by decide),if_neg (by rw [sC.out];exact h0)])
          have HG:=qqh (dQ.out.trans (if_neg (fun h=>h HZ.out)))
          obtain rfl:n'=0:=by omega
          go_wp2_with fail
          exact⟨⟨k+1,by omega,by go_num,HG.out,nQ eo.out,bF.out _⟩,by simp [intOf];omega⟩
   have en1:(p.name.toList == [])=true:=en;have HW:=qqh (show iO p=(cz p.rules).1 by unfold iO;rw [en];rfl);clear en;obtain⟨r1,r2,hR⟩:∃ r1 r2,cz p.rules=(r1,r2):=⟨_,_,rfl⟩;have wL:=qqh (jU X p.rules A' n' c' W hn' HR.out);rw [hR]at wL HW;dsimp only at wL HW;clear hR;have DJ:=fun(W:World)=>td r1 r2 W;go_wp2_with fail;refine wL.out.mono ?_;rintro e w3 ⟨rfl,bL⟩;have eo:=qqh (ai.below eT.out bL eT.out.lt);have bF:=qqh (bw.out.trans (bL.mono bw.out.size));have y0:=eo.out.cell 0;have y1:=eo.out.cell 1;have g0:=eo.out.frozen 0;have g1:=eo.out.frozen 1;clear bL p0 p1;by_cases pY:r1=0
   ·subst pY;have HZ:=qqh (show iO p=0 from HW.out);have HG:=qqh (dQ.out.trans (if_neg (fun h=>h HZ.out)));go_wp2_with fail;exact⟨⟨k+1,by omega,by go_num,HG.out,eo.out,bF.out⟩,by simp [intOf];omega⟩
   have HG:=qqh (show cT s=(r1,(k:Int)) by rw [J2.out,dQ.out,HW.out,if_pos pY]);go_wp2_with fail;rw [HG.out];exact bodyPost_ret (v:=.agg #[.int .i64 r1,.int .i64 k]) (by simp [results,Tryz.results38,go_sem,y0,y1]) rfl ⟨rfl,(bF.out.setCell (by simp) _).setCell (by simp) _⟩
  obtain rfl:k=n2:=(by omega);rw [List.drop_of_length_le (by rw [aO.out];exact Nat.le_refl _),fD]at aV;have HG:=qqh (J2.out.trans aV);have y0:=hf.cell 0;have y1:=hf.cell 1;have g0:=hf.frozen 0;have g1:=hf.frozen 1;clear aV hf;go_wp2_with fail;rw [HG.out];exact bodyPost_ret (v:=.agg #[.int .i64 0,.int .i64 0]) (by simp [results,Tryz.results38,go_sem,y0,y1]) rfl ⟨rfl,(hb.setCell (by simp) _).setCell (by simp) _⟩
 have x1:W0.cell? ⟨w.heap.size,1,none⟩=some (.slice A1 n1 c1):=HX.out.cell 1;have Vq:=qqh (gR A1 n1 c1 s.only W0 (by omega) (cE.of (HS.out.only.keep (aa.any HB.out))));rw [ho]at x0;go_wp2_with fail;refine Vq.out.mono ?_;rintro e w1 ⟨rfl,aP⟩;have HX:=qqh (ai.below HX.out aP HX.out.lt);have HF:=qqh (ai.below HF.out aP HF.out.lt);have HB:=qqh (HB.out.trans (aP.mono HB.out.size));clear aP Vq x0 x1;by_cases hz:bA s.only=0
 ·have ME:=qqh (show cT s=if 60<s.passes.length then (5,0)else fD 0 s.passes by unfold cT;rw [if_neg (fun h=>h.2 hz)]);rw [hz];clear hz ho;have x2:w1.cell? ⟨w.heap.size,2,none⟩=some (.slice A2 n2 c2):=HX.out.cell 2;have y0:=HF.out.cell 0;have y1:=HF.out.cell 1;have g0:=HF.out.frozen 0;have g1:=HF.out.frozen 1;by_cases yU:60<n2
  ·have HG:=qqh (show cT s=(5,0) by rw [ME.out,if_pos (by rw [aO.out];exact yU)]);have hgt:decide ((60:Int)<(n2:Int))=true:=decide_eq_true (by omega);go_wp2_with fail;rw [HG.out];exact bodyPost_ret (v:=.agg #[.int .i64 5,.int .i64 0]) (by simp [results,Tryz.results38,go_sem,y0,y1]) rfl ⟨rfl,(HB.out.setCell (by simp) _).setCell (by simp) _⟩
  have J2:=qqh (show cT s=fD 0 s.passes by rw [ME.out,if_neg (by rw [aO.out];exact yU)]);have hgt:decide ((60:Int)<(n2:Int))=false:=decide_eq_false (by omega);clear ME y0 y1 g0 g1;go_wp2_with fail;go_loopw [24] (OI w s n2) (fun i _=>n2 - (intOf i).toNat);(case atStart=>exact⟨0,Nat.zero_le _,rfl,rfl,HF.out,HB.out⟩);obtain⟨k,hk,rfl,aV,hf,hb⟩:=hrel;have hz:=hb.size;by_cases hlt:k<n2
  ·obtain⟨p,hp⟩:∃ z,s.passes[k]? = some z:=⟨_,List.getElem?_eq_getElem (by rw [aO.out];exact hlt)⟩;obtain⟨b,off,A',n',c',rfl,_,cC,e0,e1,hr,hn'⟩:=ql (HS.out.pas.keep (aa.any hb) (fun _ _=>cX.keep (aa.any hb))) hp;rw [cW hp,fD]at aV;have dQ:=qqh aV;have hba:=(Below.refl wr.heap.size wr).alloc (Nat.le_refl _) (.cells #[.string p.name,.slice A' n' c'] 59);have HR:=qqh (hr.keep (aa.any hba) (fun _ _=>aW.keep (aa.any hba)));have eT:=qqh (hf.alloc (.cells #[.string p.name,.slice A' n' c'] 59));have bw:=qqh (hb.trans (hba.mono hz));have HP:=qqh (ai.new wr 59 #[.string p.name,.slice A' n' c']);have sC:=qqh (show p.rules.length=n' from hr.len);clear aV hr hf hb hba hp;go_upto_region 10 with fail;generalize hW:wr.alloc (.cells #[.string p.name,.slice A' n' c'] 59)=W at *;have hwz:wr.heap.size<W.heap.size:=HP.out.lt;clear hW e0 e1;have p0:W.cell? ⟨wr.heap.size,0,none⟩=some (.string p.name):=HP.out.cell 0;have p1:W.cell? ⟨wr.heap.size,1,none⟩=some (.slice A' n' c'):=HP.out.cell 1;have y0:=eT.out.cell 0;have y1:=eT.out.cell 1;have g0:=eT.out.frozen 0;have g1:=eT.out.frozen 1;cases en:isNone p.name
   ·have en1:(p.name.toList == [])=false:=en;have Gc:=qqh (show iO p=if jD p.name=false then 7 else if 0<p.rules.length then 8 else 0 by unfold iO;rw [en];rfl);clear en;obtain⟨pb,hpb⟩:∃ pb,jD p.name=pb:=⟨_,rfl⟩;have Qs:=qqh hpb;rw [hpb]at Gc;clear hpb;have bF:=qqh (fun(q:Nat)=>below_drewN (bw.out.alloc bw.out.size (.cells #[.string fu,.string ke,.string gI,.string fo] 9)) q);have eo:=qqh (eT.out.alloc (.cells #[.string fu,.string ke,.string gI,.string fo] 9));have ic:=qqh (HP.out.alloc (.cells #[.string fu,.string ke,.string gI,.string fo] 9));go_upto_region 13 with fail;go_region_with (first | (go_at_call 57;refine(iq _).mono ?_;rintro e w' ⟨rfl,rfl⟩) | (go_at_call 56;refine(qf _ p.name _ Qs.out _ (nQ (ai.new _ _ _))).mono ?_;rintro e w' ⟨rfl,rfl⟩))
    all_goals
      have y0:=eo.out.cell 0
      have y1:=eo.out.cell 1
      have g0:=eo.out.frozen 0
      have g1:=eo.out.frozen 1
      have p0:=ic.out.cell 0
      have p1:=ic.out.cell 1
      cases pb
      · have HG:=qqh (show cT s=(7,(k:Int)) by rw [J2.out,dQ.out,(show iO p=7 by rw [Gc.out,if_pos rfl]),if_pos (by decide)])
        go_wp2_with fail
        rw [HG.out]
        exact bodyPost_ret (v:=.agg #[.int .i64 7,.int .i64 k]) (by simp [results,Tryz.results38,go_sem,y0,y1]) rfl ⟨rfl,((bF.out _).setCell (by simp) _).setCell (by simp) _⟩
      · by_cases h0:0<n'
        · have HG:=qqh (show cT s=(8,(k:Int)) by rw [J2.out,dQ.out,(show iO p=8 by rw [Gc.out,if_neg (by decide),if_pos (by rw [sC.out];exact h0)]),if_pos (by decide)])
          go_wp2_with fail
          rw [HG.out]
          exact bodyPost_ret (v:=.agg #[.int .i64 8,.int .i64 k]) (by simp [results,Tryz.results38,go_sem,y0,y1]) rfl ⟨rfl,((bF.out _).setCell (by simp) _).setCell (by simp) _⟩
        · have HZ:=qqh (show iO p=0 by rw [Gc.out,if_neg (by decide),if_neg (by rw [sC.out];exact h0)])
          have HG:=qqh (dQ.out.trans (if_neg (fun h=>h HZ.out)))
          obtain rfl:n'=0:=by omega
          go_wp2_with fail
          exact⟨⟨k+1,by omega,by go_num,HG.out,nQ eo.out,bF.out _⟩,by simp [intOf];omega⟩
   have en1:(p.name.toList == [])=true:=en;have HW:=qqh (show iO p=(cz p.rules).1 by unfold iO;rw [en];rfl);clear en;obtain⟨r1,r2,hR⟩:∃ r1 r2,cz p.rules=(r1,r2):=⟨_,_,rfl⟩;have wL:=qqh (jU X p.rules A' n' c' W hn' HR.out);rw [hR]at wL HW;dsimp only at wL HW;clear hR;have DJ:=fun(W:World)=>td r1 r2 W;go_wp2_with fail;refine wL.out.mono ?_;rintro e w3 ⟨rfl,bL⟩;have eo:=qqh (ai.below eT.out bL eT.out.lt);have bF:=qqh (bw.out.trans (bL.mono bw.out.size));have y0:=eo.out.cell 0;have y1:=eo.out.cell 1;have g0:=eo.out.frozen 0;have g1:=eo.out.frozen 1;clear bL p0 p1;by_cases pY:r1=0
   ·subst pY;have HZ:=qqh (show iO p=0 from HW.out);have HG:=qqh (dQ.out.trans (if_neg (fun h=>h HZ.out)));go_wp2_with fail;exact⟨⟨k+1,by omega,by go_num,HG.out,eo.out,bF.out⟩,by simp [intOf];omega⟩
   have HG:=qqh (show cT s=(r1,(k:Int)) by rw [J2.out,dQ.out,HW.out,if_pos pY]);go_wp2_with fail;rw [HG.out];exact bodyPost_ret (v:=.agg #[.int .i64 r1,.int .i64 k]) (by simp [results,Tryz.results38,go_sem,y0,y1]) rfl ⟨rfl,(bF.out.setCell (by simp) _).setCell (by simp) _⟩
  obtain rfl:k=n2:=(by omega);rw [List.drop_of_length_le (by rw [aO.out];exact Nat.le_refl _),fD]at aV;have HG:=qqh (J2.out.trans aV);have y0:=hf.cell 0;have y1:=hf.cell 1;have g0:=hf.frozen 0;have g1:=hf.frozen 1;clear aV hf;go_wp2_with fail;rw [HG.out];exact bodyPost_ret (v:=.agg #[.int .i64 0,.int .i64 0]) (by simp [results,Tryz.results38,go_sem,y0,y1]) rfl ⟨rfl,(hb.setCell (by simp) _).setCell (by simp) _⟩
 have HG:=qqh (show cT s=(bA s.only,0) by unfold cT;rw [if_pos ⟨ho,hz⟩]);have y0:=HF.out.cell 0;have y1:=HF.out.cell 1;have g0:=HF.out.frozen 0;have g1:=HF.out.frozen 1;generalize bA s.only=wp at *;go_wp2_with fail;rw [HG.out];exact bodyPost_ret (v:=.agg #[.int .i64 wp,.int .i64 0]) (by simp [results,Tryz.results38,go_sem,y0,y1]) rfl ⟨rfl,(HB.out.setCell (by simp) _).setCell (by simp) _⟩
theorem sv (l:List ax):∀ (left:Nat) (done rest:List Int) (s p:Nat),done.length+rest.length≤4000→(cS l left done rest s p).1.text.length≤4000:=by
 intro left;induction left with
 | zero=>
  intro done rest s p h;cases rest with
  | nil=>simpa [nL] using h
  | cons z rest=>exact Nat.zero_le _
 | succ left ih=>
  intro done rest s p h;cases rest with
  | nil=>simpa [nL] using h
  | cons z rest=>
   rw [cS];split
   ·refine ih _ _ _ _ ?_;simp only [List.length_append,List.length_cons,List.length_nil]at h ⊢;omega
   split;exact Nat.zero_le _;split;exact Nat.zero_le _;rename_i hm;refine ih _ _ _ _ ?_;rw [List.length_append,Nat.add_assoc,← List.length_append,List.take_append_drop];omega
theorem mS {t:List Int} (h:eK t=0):t.length≤4000:=by
 unfold eK at h;by_cases h4:4000<t.length
 ·rw [if_pos h4]at h;cases h
 omega
theorem E5 (l:List ax) (t:List Int):(iz l t).1.text.length≤4000:=by
 unfold iz;split;exact Nat.zero_le _;split;exact Nat.zero_le _;rename_i h;split;exact Nat.zero_le _;unfold oI;split;exact Nat.zero_le _;exact sv l _ _ _ _ _ (by have:=mS (t:=t) (by omega);simpa using this)
theorem uZ (p:cB) {l:List Int} (h:l.length≤4000):(iJ p l).1.length≤4000:=by
 unfold iJ;split
 ·simpa using h
 split
 ·simpa using h
 split;exact Nat.zero_le _;split;exact h;exact E5 _ _
def allI:Nat→List cB→List Int→List Int × (Int × Int)
  | _,[],l=>(l,(0,0))
  | k,p::ps,l=>if (iJ p l).2≠0 then ([],((iJ p l).2,(k:Int)))else allI (k+1) ps (iJ p l).1
theorem vA:∀ (ps:List cB) (k:Nat) (l:List Int),l.length≤4000→(allI k ps l).1.length≤4000:=by
 intro ps;induction ps with
 | nil=>intro k l h;exact h
 | cons p ps ih=>
  intro k l h;rw [allI];split;exact Nat.zero_le _;exact ih _ _ (uZ p h)
def Ow (Y:Nat→Prop) (lo:Nat) (w':World) (o:List Int × (Int × Int)) (e:Ending):Prop :=
  ∃ (A:Option Addr) (n c:Nat),e=.returned (.tuple #[.slice A n c,.agg #[.int .i64 o.2.1,.int .i64 o.2.2]])∧cE w' (fun b=>Y b∨lo≤b) 1 A n (runeCells o.1)
def Tt (w:World) (Y:Nat→Prop) (s:bS) (l:List Int) (n2:Nat) (s1 i:Value) (wr:World):Prop :=
  ∃ (k:Nat) (l':List Int) (A:Option Addr) (n c:Nat),k≤n2∧i=.int .i64 k∧s1=.slice A n c∧cE wr (fun b=>Y b∨w.heap.size≤b) 1 A n (runeCells l')∧cE wr (fun b=>(Y b∨w.heap.size≤b)∧b≠w.heap.size) 1 A n (runeCells l')∧l'.length≤4000∧allI 0 s.passes l=allI k (s.passes.drop k) l'∧ai wr w.heap.size 32 #[.int .i64 0,.int .i64 0]∧Below w.heap.size w wr
theorem yu (X Y:Nat→Prop) (s:bS) (b0:Nat) (A1 A2 A:Option Addr) (n1 n2 c2 n c:Nat) (l:List Int) (w:World) (hs:iA w X s A1 n1 A2 n2) (h0:w.cell? ⟨b0,2,none⟩=some (.slice A2 n2 c2)) (hb0:b0<w.heap.size) (VP:l.length≤4000) (hl:cE w Y 1 A n (runeCells l)) :
    Calls Tryz.prog 39 #[.pointer (some ⟨b0,0,none⟩),.slice A n c] w fun e w'=>Ow Y w.heap.size w' (allI 0 s.passes l) e∧Below w.heap.size w w':=by
 have hm2:=hs.m2;have hba:=(Below.refl w.heap.size w).alloc (Nat.le_refl _) (.cells #[.int .i64 0,.int .i64 0] 32);have d2:(w.alloc (.cells #[.int .i64 0,.int .i64 0] 32)).cell? ⟨b0,2,none⟩=some (.slice A2 n2 c2):=(hba.cell (p:=⟨b0,2,none⟩) hb0).trans h0;have aO:=qqh (show s.passes.length=n2 from hs.pas.len);have HS:=qqh hs;have q7:=qqh (ai.new w 32 #[.int .i64 0,.int .i64 0]);have dF:=qqh hba;have RN:=qqh (hl.keep (X':=fun b=>Y b∨w.heap.size≤b) (aa.below hba (fun _ h _=>.inl h)));have Je:=qqh (hl.keep (X':=fun b=>(Y b∨w.heap.size≤b)∧b≠w.heap.size) (aa.below hba (fun b h hl=>⟨.inl h,by omega⟩)));have NZ:=qqh VP;clear hs hba hl h0;simp only [maxLen]at hm2;go_enter Tryz.func39,Tryz.ntmps39;go_wp2_with fail;go_loopw [1,14] (Tt w Y s l n2) (fun _ i _=>n2 - (intOf i).toNat);(case atStart=>exact⟨0,l,A,n,c,Nat.zero_le _,rfl,rfl,RN.out,Je.out,NZ.out,rfl,q7.out,dF.out⟩);obtain⟨k,l',A',n',c',hk,rfl,rfl,hl,hl',X8,aV,hf,hb⟩:=hrel;have hz:=hb.size;have hln:=hl.1;rw [runeCells_length]at hln;by_cases hlt:k<n2
 ·obtain⟨p,hp⟩:∃ z,s.passes[k]? = some z:=⟨_,List.getElem?_eq_getElem (by rw [aO.out];exact hlt)⟩;obtain⟨b,off,Ar,nr,cr,rfl,_,cC,e0,e1,hr,Du⟩:=ql (HS.out.pas.keep (aa.any hb) (fun _ _=>cX.keep (aa.any hb))) hp;rw [cW hp,allI]at aV;have dQ:=qqh aV;have hba:=(Below.refl wr.heap.size wr).alloc (Nat.le_refl _) (.cells #[.string p.name,.slice Ar nr cr] 59);have eT:=qqh (hf.alloc (.cells #[.string p.name,.slice Ar nr cr] 59));have bw:=qqh (hb.trans (hba.mono hz));have HP:=qqh (ai.new wr 59 #[.string p.name,.slice Ar nr cr]);have HM:=qqh (Fg X (fun b=>(Y b∨w.heap.size≤b)∧b≠w.heap.size) p Ar A' nr cr n' c' l' (wr.alloc (.cells #[.string p.name,.slice Ar nr cr] 59)) Du (hr.keep (aa.any hba) (fun _ _=>aW.keep (aa.any hba))) (by omega) (hl'.keep (aa.any hba)));have IF:=qqh (uZ p X8);clear aV hr hf hb hba hp hl hl';go_upto_region 4 with fail;generalize hW:wr.alloc (.cells #[.string p.name,.slice Ar nr cr] 59)=W at *;have hwz:wr.heap.size<W.heap.size:=HP.out.lt;clear hW e0 e1;have p0:W.cell? ⟨wr.heap.size,0,none⟩=some (.string p.name):=HP.out.cell 0;have p1:W.cell? ⟨wr.heap.size,1,none⟩=some (.slice Ar nr cr):=HP.out.cell 1;go_wp2_with fail;refine HM.out.mono ?_;rintro e w3 ⟨⟨A3,n3,c3,rfl,iY⟩,bL⟩;have hwW:=eT.out.lt;have wY:=qqh (iY.keep (X':=fun b=>Y b∨w.heap.size≤b) (aa.refl (fun b h=>by rcases h with h | h;exact h.1;exact .inr (by omega))));have QY:=qqh (iY.keep (X':=fun b=>(Y b∨w.heap.size≤b)∧b≠w.heap.size) (aa.refl (fun b h=>by rcases h with h | h;exact h;exact⟨.inr (by omega),by omega⟩)));have eo:=qqh (ai.below eT.out bL eT.out.lt);have bF:=qqh (bw.out.trans (bL.mono bw.out.size));have y0:=eo.out.cell 0
  have y1:=eo.out.cell 1;have g0:=eo.out.frozen 0;have g1:=eo.out.frozen 1;obtain⟨x,f,hx⟩:∃ x f,iJ p l'=(x,f):=⟨_,_,rfl⟩;rw [hx]at dQ IF wY QY ⊢;dsimp only at dQ IF wY QY ⊢;clear bL iY p0 p1 HM hx;by_cases Yq:f=0
  ·subst Yq;have HG:=qqh (dQ.out.trans (if_neg (fun h=>h rfl)));go_wp2_with fail;exact⟨⟨k+1,x,A3,n3,c3,by omega,by go_num,rfl,wY.out,QY.out,IF.out,HG.out,eo.out,bF.out⟩,by simp [intOf];omega⟩
  have HG:=qqh (dQ.out.trans (if_pos Yq));go_wp2_with fail;rw [HG.out];exact bodyPost_ret (v:=.tuple #[.slice none 0 0,.agg #[.int .i64 f,.int .i64 k]]) (by simp [results,Tryz.results39,go_sem,y0,y1]) rfl ⟨⟨none,0,0,rfl,⟨rfl,fun h=>absurd h (Nat.lt_irrefl 0)⟩⟩,(bF.out.setCell (by simp) _).setCell (by simp) _⟩
 obtain rfl:k=n2:=(by omega);rw [List.drop_of_length_le (by rw [aO.out];exact Nat.le_refl _),allI]at aV;have HG:=qqh aV;have y0:=hf.cell 0;have y1:=hf.cell 1;have g0:=hf.frozen 0;have g1:=hf.frozen 1;have HR:=qqh ((hl'.keep (aa.setCell (X':=fun b=>(Y b∨w.heap.size≤b)∧b≠w.heap.size) (p:=⟨w.heap.size,0,none⟩) (.int .i64 0) (fun b h=>h.2) (fun _ h _=>h))).keep (aa.setCell (X':=fun b=>Y b∨w.heap.size≤b) (p:=⟨w.heap.size,1,none⟩) (.int .i64 0) (fun b h=>h.2) (fun _ h _=>h.1)));have HB:=qqh hb;clear aV hl hl' hf hb;go_wp2_with fail;rw [HG.out];exact bodyPost_ret (v:=.tuple #[.slice A' n' c',.agg #[.int .i64 0,.int .i64 0]]) (by simp [results,Tryz.results39,go_sem,y0,y1]) rfl ⟨⟨A',n',c',rfl,HR.out⟩,(HB.out.setCell (by simp) _).setCell (by simp) _⟩
def pN (l:List ax) (t:List Int):Int × Int:=if (cz l).1≠0 then cz l else (eK t,0)
def eP (l:List ax) (t:List Int):By × (Int × Int):=if (pN l t).1≠0 then (fh,pN l t)else oI (cS l (8*t.length+40) [] t 0 0)
theorem qX {w:World} {X:Nat→Prop} {A:Option Addr} {n k:Nat} {xs:List Value} (h:cE w X 1 A n xs) (hk:k≤n):cE w X 1 A k (xs.take k):=by
 refine⟨by rw [List.length_take,h.1];omega,fun h0=>?_⟩;obtain⟨b,off,e,hx,hl,hc⟩:=h.2 (by omega);refine⟨b,off,e,hx,hl,fun j u hu=>hc j u ?_⟩;rw [List.getElem?_take]at hu;split at hu;exact hu;cases hu
theorem vw {w:World} {X:Nat→Prop} {b off n k:Nat} {xs:List Value} (h:cE w X 1 (some ⟨b,off,none⟩) n xs) (hk:k≤n):cE w X 1 (some ⟨b,off+k,none⟩) (n - k) (xs.drop k):=by
 refine⟨by rw [List.length_drop,h.1];omega,fun h0=>?_⟩;obtain⟨b',off',e,hx,hl,hc⟩:=h.2 (by omega);cases e;refine⟨b,off+k,rfl,hx,hl,fun j u hu=>?_⟩;rw [List.getElem?_drop]at hu;have:=hc _ u hu;rwa [← Nat.add_assoc]at this
theorem j5 (E:List Int) (k:Nat):(runeCells E).drop k=runeCells (E.drop k):=by simp [runeCells]
theorem iu (E:List Int) (k:Nat):(runeCells E).take k=runeCells (E.take k):=by simp [runeCells]
def VV (lo M:Nat) (v:Value) (b:Nat):Prop:=lo≤b∧b≠M∧v.ownBlock≠some b
structure Kx (w:World) (M:Nat) (s8:Value) (done:List Int) (nd:Nat) (b9 o9 nz:Nat) (rest:List Int) (st pt:Int) (wr:World):Prop where
  own:wr.ownsRow w.heap.size 21 1 s8 nd (runeCells done)
  rd:cE wr (VV w.heap.size M s8) 1 (some ⟨b9,o9,none⟩) nz (runeCells rest)
  out:ai wr M 29 #[.slice none 0 0,.int .i64 st,.int .i64 pt]
  r4:ai wr w.heap.size 29 #[.slice none 0 0,.int .i64 0,.int .i64 0]
  r5:ai wr (w.heap.size+1) 32 #[.int .i64 0,.int .i64 0]
  below:Below w.heap.size w wr
  dl:done.length=nd
  ml:w.heap.size+1<M
section
variable {w wr w' : World} {M nd b9 o9 nz : Nat} {s8 : Value} {done rest : List Int} {st pt : Int}
theorem Kx.set (h:Kx w M s8 done nd b9 o9 nz rest st pt wr) (i:Nat) (u:Value) {st' pt':Int} (he:(#[.slice none 0 0,.int .i64 st,.int .i64 pt]:Array Value).setIfInBounds i u = #[.slice none 0 0,.int .i64 st',.int .i64 pt']) :
    Kx w M s8 done nd b9 o9 nz rest st' pt' (wr.setCell ⟨M,i,none⟩ u) :=
  ⟨gl h.own h.out (by decide),h.rd.keep (aa.setCell u (fun b hb=>hb.2.1) (fun _ hb _=>hb)),by rw [← he];exact h.out.put i u,
    (by have:=h.ml;exact(Below.heap_setCell _ _ _ _ (by simp only;omega)).trans h.r4),(by have:=h.ml;exact(Below.heap_setCell _ _ _ _ (by simp only;omega)).trans h.r5),h.below.setCell (by have:=h.ml;simp only;omega) u,h.dl,h.ml⟩
end
theorem L8 {l:List ax} {t:List Int} (h:(pN l t).1=0):(cz l).1=0∧eK t=0:=by
 unfold pN at h;by_cases h2:(cz l).1≠0
 ·rw [if_pos h2]at h;exact absurd h h2
 rw [if_neg h2]at h;exact⟨by omega,h⟩
def rV (lo:Nat) (w':World) (o:By × (Int × Int)) (e:Ending):Prop :=
  ∃ (A:Option Addr) (n c:Nat),e=.returned (.tuple #[.agg #[.slice A n c,.int .i64 o.1.steps,.int .i64 o.1.put],.agg #[.int .i64 o.2.1,.int .i64 o.2.2]])∧cE w' (fun b=>lo≤b) 1 A n (runeCells o.1.text)∧n≤c
def sU (s:bS) (x:Int):Bool:=!s.only? || bt s.only x
def jr (s:bS) (pc out:List Int):List Int × (Int × Int) :=
  if pc = []then (out,(0,0))else if (allI 0 s.passes pc).2.1≠0 then ([],(allI 0 s.passes pc).2)else (out++(allI 0 s.passes pc).1,(0,0))
def ot (s:bS):List Int→List Int→List Int→List Int × (Int × Int)
  | [],pc,out=>jr s pc out
  | x::t,pc,out=>if sU s x=true then ot s t (pc++[x]) out else if (jr s pc out).2.1≠0 then ([],(jr s pc out).2)else ot s t [] ((jr s pc out).1++[x])
def O9 (s:bS) (t:List Int):List Int × (Int × Int) :=
  if (cT s).1≠0 then ([],cT s)else if eK t≠0 then ([],(eK t,0))else if (ot s t [] []).2.1≠0 then ([],(ot s t [] []).2)else if 4000<(ot s t [] []).1.length then ([],(4,(s.passes.length:Int)))else ((ot s t [] []).1,(0,0))
theorem Ln {s:bS} {x:Int} {t pc out:List Int} (h:sU s x=true):ot s (x::t) pc out=ot s t (pc++[x]) out:=by rw [ot,if_pos h]
theorem rH (s:bS) (out:List Int):jr s [] out=(out,(0,0)):=by rw [jr,if_pos rfl]
theorem BM {s:bS} {pc out x:List Int} {f:Int} (hp:pc ≠ []) (h:allI 0 s.passes pc=(x,(0,f))):jr s pc out=(out++x,(0,0)):=by
 rw [jr,if_neg hp,h,if_neg (fun h=>h rfl)]
theorem yw {s:bS} {pc out x:List Int} {e f:Int} (hp:pc ≠ []) (h:allI 0 s.passes pc=(x,(e,f))) (he:e≠0):jr s pc out=([],(e,f)):=by
 rw [jr,if_neg hp,h,if_pos he]
theorem Fz {s:bS} {x:Int} {t pc out o2:List Int} (h:sU s x=false) (hf:jr s pc out=(o2,(0,0))):ot s (x::t) pc out=ot s t [] (o2++[x]):=by
 rw [ot,if_neg (by rw [h];decide),hf,if_neg (fun h=>h rfl)]
theorem Nh {s:bS} {t pc out:List Int} {e f:Int} (h:∀ x t',t=x::t'→sU s x=false) (hf:jr s pc out=([],(e,f))) (he:e≠0):ot s t pc out=([],(e,f)):=by
 cases t with
 | nil=>exact hf
 | cons x t=>rw [ot,if_neg (by rw [h x t rfl];decide),hf,if_pos he]
theorem zq {s:bS} (h:(cT s).1=0) (ho:s.only? = true):aE s.only:=by
 unfold cT at h;by_cases hz:bA s.only=0;exact iS hz;rw [if_pos ⟨ho,hz⟩]at h;exact absurd h hz
theorem sX (b o n c:Nat) (l:List Int) (w:World) (hn:n≤1000000) (hl:kJ w w.heap.size (some ⟨b,o,none⟩) n l) :
    Calls Tryz.prog 19 #[.slice (some ⟨b,o,none⟩) n c] w fun e w'=>(∃ v,e=.returned v∧w'.ownsRow w.heap.size 21 1 v n (runeCells l))∧Below w.heap.size w w':=by
 obtain⟨i0,hi,z0,z1,z2⟩:=info_parts Tryz.info21;have hba:=(Below.refl w.heap.size w).alloc (Nat.le_refl _) (.cells #[] 21);have yz:=qqh hba;have OT:=qqh (nR w 21 1 w.heap.size w.heap.size rfl (Nat.le_refl _));have HL:=qqh (Rd.below hl hba);have hnil:∀ W:World,(binOp .eql 26 (.slice (some ⟨b,o,none⟩) n c) (.slice none 0 0)).run Tryz.prog W=.ok (.bool false) W:=fun _=>(by kernel_rfl);clear hba hl;go_enter Tryz.func19,Tryz.ntmps19;go_wp2_with (at_builtin;refine aj _ rfl (.tmp 5) (.tmp 6) 26 rfl w.heap.size 21 i0 _ 1 4 Tryz.underlying26 hi z0 z1 z2 rfl (by decide) _ _ _ rfl OT.out _ (some ⟨b,o,none⟩) n c (runeCells l) rfl HL.out (bf _) (by simp only [maxLen];omega) (by omega) (by simp) ?_);intro v1 w1 an;have HO:=qqh (show w1.ownsRow w.heap.size 21 1 v1 n (runeCells l) by have:=an.own;simpa using this);have HB:=qqh (yz.out.trans (an.below (by simp) OT.out));clear an;go_wp2_with fail;go_ret;exact⟨⟨_,rfl,HO.out⟩,HB.out⟩
def DX (lo:Nat) (w':World) (o:List Int × (Int × Int)) (e:Ending):Prop :=
  ∃ (A:Option Addr) (n c:Nat),e=.returned (.tuple #[.slice A n c,.agg #[.int .i64 o.2.1,.int .i64 o.2.2]])∧cE w' (fun b=>lo≤b) 1 A n (runeCells o.1)
structure AG (w:World) (cs:Array Value) (s8:Value) (out:List Int) (no:Nat) (wr:World):Prop where
  own:wr.ownsRow w.heap.size 21 1 s8 no (runeCells out)
  len:out.length=no
  scr:ai wr w.heap.size 53 cs
  fau:ai wr (w.heap.size+1) 32 #[.int .i64 0,.int .i64 0]
  below:Below w.heap.size w wr
theorem AG.go {w wr w':World} {cs:Array Value} {s8:Value} {out:List Int} {no:Nat} (h:AG w cs s8 out no wr) (hb:Below wr.heap.size wr w'):AG w cs s8 out no w' :=
  ⟨ew h.own hb,h.len,ai.below h.scr hb h.scr.lt,ai.below h.fau hb h.fau.lt,h.below.trans (hb.mono h.below.size)⟩
theorem AG.push {w wr w':World} {cs:Array Value} {s8 v:Value} {out E:List Int} {no m:Nat} (h:AG w cs s8 out no wr) (hE:E.length=m) (an:aY w.heap.size 21 1 s8 wr (no+m) (runeCells out++runeCells E) v w'):AG w cs v (out++E) (no+m) w' :=
  ⟨by rw [gB];exact an.own,by rw [List.length_append,h.len,hE],bX h.scr h.own (by decide) an,bX h.fau h.own (by decide) an,h.below.trans (an.below h.below.size h.own)⟩
def TB (w:World) (s:bS) (t:List Int) (cs:Array Value) (nt:Nat) (s8 s9:Value) (wr:World):Prop :=
  ∃ (at_ no:Nat) (out:List Int),at_≤nt∧s9=.int .i64 at_∧no≤4001*at_∧ot s t [] [] = ot s (t.drop at_) [] out∧AG w cs s8 out no wr
def V8 (w1:World) (s:bS) (t out:List Int) (at_ nt:Nat) (i:Value) (wr:World):Prop :=
  ∃ j:Nat,at_+j≤nt∧i=.int .i64 (at_+j:Nat)∧ot s (t.drop at_) [] out=ot s (t.drop (at_+j)) ((t.drop at_).take j) out∧Below w1.heap.size w1 wr
theorem NO {t:List Int} {at_ j:Nat} {x:Int} (h:t[at_+j]? = some x):(t.drop at_).take j++[x] =(t.drop at_).take (j+1):=by
 rw [List.take_add_one,List.getElem?_drop,h];rfl
theorem GW {t:List Int} {at_ j nt:Nat} (h:at_+j≤nt) (ht:t.length=nt):((t.drop at_).take j).length=j:=by rw [List.length_take,List.length_drop];omega
theorem Kk (X:Nat→Prop) (s:bS) (t:List Int) (A1 A2 At:Option Addr) (n1 c1 n2 c2 nt ct:Nat) (w:World) (hs:iA w X s A1 n1 A2 n2) (hnc:nt≤ct) (hnt:nt≤maxLen) (ht:kJ w w.heap.size At nt t) :
    Calls Tryz.prog 15 #[.agg #[.bool s.only?,.slice A1 n1 c1,.slice A2 n2 c2],.slice At nt ct] w fun e w'=>DX w.heap.size w' (O9 s t) e∧Below w.heap.size w w':=by
 obtain⟨i0,hi,z0,z1,z2⟩:=info_parts Tryz.info21;have NC:=ht.len;have hb0:=((Below.refl w.heap.size w).alloc (Nat.le_refl _) (.cells #[.bool s.only?,.slice A1 n1 c1,.slice A2 n2 c2] 53)).alloc (by simp) (.cells #[.int .i64 0,.int .i64 0] 32);have AY:=qqh (ai.alloc (ai.new w 53 #[.bool s.only?,.slice A1 n1 c1,.slice A2 n2 c2]) (.cells #[.int .i64 0,.int .i64 0] 32));have EH:=qqh (show ai ((w.alloc (.cells #[.bool s.only?,.slice A1 n1 c1,.slice A2 n2 c2] 53)).alloc (.cells #[.int .i64 0,.int .i64 0] 32)) (w.heap.size+1) 32 #[.int .i64 0,.int .i64 0] by
  have:=ai.new (w.alloc (.cells #[.bool s.only?,.slice A1 n1 c1,.slice A2 n2 c2] 53)) 32 #[.int .i64 0,.int .i64 0];simpa using this)
 have dF:=qqh hb0;have Xq:=qqh (fun(W:World) (hb:Below w.heap.size w W)=>show iA W X s A1 n1 A2 n2 from hs.keep (aa.any hb));have um:=qqh (fun(W:World) (hb:Below w.heap.size w W)=>show kJ W W.heap.size At nt t from(Rd.below ht hb).more hb.size);have HTW:=qqh ht;have sC:=qqh (show s.passes.length=n2 from hs.pas.len);have hm2:=hs.m2;clear hb0 hs ht;go_enter Tryz.func15,Tryz.ntmps15;go_upto_region 1 with fail;generalize (w.alloc (.cells #[.bool s.only?,.slice A1 n1 c1,.slice A2 n2 c2] 53)).alloc (.cells #[.int .i64 0,.int .i64 0] 32)=W0 at *;have HW:=qqh (Cn X s A1 A2 n1 c1 n2 c2 W0 (Xq.out W0 dF.out));have x0:W0.cell? ⟨w.heap.size,0,none⟩=some (.bool s.only?):=AY.out.cell 0;have x1:W0.cell? ⟨w.heap.size,1,none⟩=some (.slice A1 n1 c1):=AY.out.cell 1;have x2:W0.cell? ⟨w.heap.size,2,none⟩=some (.slice A2 n2 c2):=AY.out.cell 2;go_wp2_with fail;refine HW.out.mono ?_;rintro e w1 ⟨rfl,aP⟩;have rY:=qqh (ai.below AY.out aP AY.out.lt);have zG:=qqh (ai.below EH.out aP EH.out.lt);have bI:=qqh (dF.out.trans (aP.mono dF.out.size));clear aP HW AY EH dF x0 x1 x2;obtain⟨r1,r2,hR⟩:∃ r1 r2,cT s=(r1,r2):=⟨_,_,rfl⟩;have pV:=qqh (fun(h:r1=0) (ho:s.only? = true)=>zq (s:=s) (by rw [hR];exact h) ho);have Ya:=qqh (show O9 s t=if r1≠0 then ([],(r1,r2))else if eK t≠0 then ([],(eK t,0))else if (ot s t [] []).2.1≠0 then ([],(ot s t [] []).2)else if 4000<(ot s t [] []).1.length then ([],(4,(s.passes.length:Int)))else ((ot s t [] []).1,(0,0)) by unfold O9;rw [hR]);rw [hR];dsimp only;clear hR;have hw1:=zG.out.lt;have Cl:=qqh (rY.out.alloc (.cells #[.int .i64 r1,.int .i64 r2] 32))
 have Eu:=qqh (zG.out.alloc (.cells #[.int .i64 r1,.int .i64 r2] 32));have Zl:=qqh (ai.new w1 32 #[.int .i64 r1,.int .i64 r2]);have bw:=qqh (bI.out.alloc bI.out.size (.cells #[.int .i64 r1,.int .i64 r2] 32));go_upto_region 2 with fail;clear rY zG bI;generalize hW2:w1.alloc (.cells #[.int .i64 r1,.int .i64 r2] 32)=W2 at *;clear hW2;have z0':=Zl.out.cell 0;have z1':=Zl.out.cell 1;by_cases hz:r1=0
 ·subst hz;have Nq:=qqh (Ya.out.trans (if_neg (fun h=>h rfl)));have MK:=qqh (mj At nt ct t W2 hnt (um.out W2 bw.out));go_wp2_with fail;refine MK.out.mono ?_;rintro e w3 ⟨rfl,bL⟩;have Hx:=qqh (ai.below Cl.out bL Cl.out.lt);have AX:=qqh (ai.below Eu.out bL Eu.out.lt);have bF:=qqh (bw.out.trans (bL.mono bw.out.size));clear bL MK Cl Eu bw Zl Ya z0' z1';obtain⟨tp,uO⟩:∃ tp,eK t=tp:=⟨_,rfl⟩;have HTS:=qqh (fun(h:tp=0)=>mS (t:=t) (by rw [uO];exact h));rw [uO]at Nq ⊢;clear uO;by_cases hz:tp=0
  ·subst hz;have NA:=qqh (Nq.out.trans (if_neg (fun h=>h rfl)));have Vu:nt≤4000:=(by have:=HTS.out rfl;omega);generalize hcs:(#[.bool s.only?,.slice A1 n1 c1,.slice A2 n2 c2]:Array Value)=cs at *;have DY:=qqh (show cs[0]? = some (.bool s.only?)∧cs[1]? = some (.slice A1 n1 c1)∧cs[2]? = some (.slice A2 n2 c2) by subst hcs;exact⟨rfl,rfl,rfl⟩);have SO:=qqh (show AG w cs (.slice none 0 0) [] 0 w3 from⟨World.ownsRow_nil _ _ _ _,rfl,Hx.out,AX.out,bF.out⟩);clear Nq hcs Hx AX bF;go_wp2_with fail;go_loopw [8,9] (TB w s t cs nt) (fun _ s9 _=>nt - (intOf s9).toNat);(case atStart=>exact⟨0,0,[],Nat.zero_le _,rfl,Nat.le_refl _,rfl,SO.out⟩);clear SO;obtain⟨at_,no,out,jV,rfl,hno,aV,hst⟩:=hrel;have ff:=qqh hst;have dQ:=qqh aV;obtain⟨Av,cv,rfl,_⟩:=aI hst.own;have jX:=hst.below;have hzw:=jX.size;clear aV;by_cases hlt:at_<nt
   ·obtain⟨tb,MJ,rfl,htb,_⟩:=HTW.out.at hlt;have aeK:decide ((at_:Int)<(nt:Int))=true:=decide_eq_true (by omega);clear hst;go_wp2_with fail;go_loopw [10] (V8 wr s t out at_ nt) (fun i _=>nt - (intOf i).toNat);(case atStart=>exact⟨0,by omega,rfl,by simp,Below.refl _ _⟩);obtain⟨j,hj,rfl,Yu,hbi⟩:=hrel;have FK:=qqh (dQ.out.trans Yu);have Wx:=qqh Yu;have Jd:=qqh (ff.out.go hbi);have Y8:=qqh hbi;have s0:wr.cell? ⟨w.heap.size,0,none⟩=some (.bool s.only?):=(Jd.out.scr.cell 0).trans DY.out.1;have s1:wr.cell? ⟨w.heap.size,1,none⟩=some (.slice A1 n1 c1):=(Jd.out.scr.cell 1).trans DY.out.2.1;obtain⟨en,Xj⟩:∃ en,at_+j=en:=⟨_,rfl⟩;have FX:=qqh (GW hj NC);rw [Xj]at hj FK Wx ⊢;clear Yu hbi;by_cases hle:en<nt
    ·obtain⟨x,hx⟩:∃ z,t[en]? = some z:=⟨_,List.getElem?_eq_getElem (by omega)⟩;obtain⟨b',o',eA,_,cx⟩:=HTW.out.at hle;cases eA;rw [show t.getD en 0=x by simp [List.getD,hx]]at cx;have dx:wr.cell? ⟨tb,MJ+en,none⟩=some (.int .i32 x):=(Jd.out.below.cell (p:=⟨tb,MJ+en,none⟩) htb).trans cx;have Xv:decide ((en:Int)<(nt:Int))=true:=decide_eq_true (by omega);have HDX:=qqh (cW hx);have HAS:=qqh (NO (t:=t) (at_:=at_) (j:=j) (by rw [Xj];exact hx));rw [HDX.out]at FK Wx;clear hx cx;cases ho:s.only?
     ·have Mq:=qqh (show sU s x=true by unfold sU;rw [ho];rfl);rw [ho]at s0;have Nx:=qqh (Wx.out.trans (Ln Mq.out));rw [HAS.out]at Nx;clear ho;go_upto_region 11 with fail;go_quiet (fail);go_wp2_with fail;exact⟨⟨j+1,by omega,by go_num,by rw [← Nat.add_assoc,Xj];exact Nx.out,below_drewN Y8.out nq⟩,by simp [intOf];omega⟩
     have Wr:=qqh (fun(W:World) (hb:Below w.heap.size w W)=>qD A1 n1 c1 s.only x W (pV.out (by trivial) ho) (cE.of (Xq.out W hb).only));rw [ho]at s0;have Mq:=qqh (show sU s x=bt s.only x by unfold sU;rw [ho];rfl);clear ho;go_upto_region 11 with fail;go_region_with (go_at_call 10;refine(Wr.out _ (aC Jd.out.below)).mono ?_;rintro e wh ⟨rfl,hbh⟩)
     all_goals
       have HBH:=qqh ((aC (Below.refl wr.heap.size wr)).trans hbh)
       clear hbh
       cases hh:bt s.only x
       · have HMF:=qqh (Mq.out.trans hh)
         have Dj:=qqh (Jd.out.go HBH.out)
         clear hh
         by_cases hj0:j=0
         · have hgt:decide ((at_:Int)<(en:Int))=false:=decide_eq_false (by omega)
           have IW:=(Below.refl wh.heap.size wh).alloc (Nat.le_refl _) (.cells #[.int .i32 x] 21)
           have iV:=qqh (Dj.out.go IW)
           have Pq:=qqh (Rd.new wh 21 1 1 [.int .i32 x] rfl)
           have dx2:wh.cell? ⟨tb,MJ+en,none⟩=some (.int .i32 x):=(Dj.out.below.cell (p:=⟨tb,MJ+en,none⟩) htb).trans (((Jd.out.below.cell (p:=⟨tb,MJ+en,none⟩) htb).symm).trans dx)
           clear IW
           go_wp2_with (at_builtin;refine aj _ rfl (.tmp 73) (.tmp 78) 26 rfl w.heap.size 21 i0 _ 1 4 Tryz.underlying26 hi z0 z1 z2 rfl (by decide) _ (no) _ rfl iV.out.own _ (some ⟨wh.heap.size,0,none⟩) 1 1 (runeCells [x]) rfl Pq.out (bf _) (by simp only [maxLen];omega) (by omega) iV.out.below.size ?_)
           intro vf wf an
           have jl:=qqh (iV.out.push (E:=[x]) rfl an)
           obtain⟨Af,cf,rfl,_⟩:=aI jl.out.own
           have xU:=qqh (show ot s t [] [] = ot s (t.drop (en+1)) [] (out++[x]) from FK.out.trans (Fz HMF.out (by rw [show(t.drop at_).take j = [] by rw [hj0];rfl];exact rH s out)))
           clear an iV Pq
           go_wp2_with fail
           exact⟨⟨en+1,no+1,out++[x],by omega,by go_num,by omega,xU.out,jl.out⟩,by simp [intOf];omega⟩
         · have Qj:0<j:=by omega
           have hne:¬ ct=at_:=by omega
           have XV:en - at_=j:=by omega
           have oC:=qqh (cE.FP (X:=fun _=>True) (um.out _ Dj.out.below) (Nat.le_refl _) (fun _ _=>trivial))
           have Dw:=qX (vw oC.out (show at_≤nt by omega)) (show j≤nt - at_ by omega)
           rw [j5,iu]at Dw
           have qq:=qqh (sX tb (MJ+at_) j (ct - at_) ((t.drop at_).take j) _ (by omega) Dw.of)
           have hgt:decide ((at_:Int)<(en:Int))=true:=decide_eq_true (by omega)
           clear Dw oC
           go_wp2_with fail
           refine qq.out.mono ?_
           rintro e wc ⟨⟨v,rfl,hown⟩,hbc⟩
           obtain⟨Ac,cc,rfl,_⟩:=aI hown
           have DG:=qqh (Dj.out.go hbc)
           have od:=qqh (yu X (fun b=>w.heap.size≤b) s w.heap.size A1 A2 Ac n1 n2 c2 j cc ((t.drop at_).take j) wc (Xq.out wc DG.out.below) ((DG.out.scr.cell 2).trans DY.out.2.2) DG.out.scr.lt (by rw [FX.out];omega) (cE.ck hown (fun b hb=>Nat.le_trans Dj.out.below.size (aU hown hb).1)))
           have MS:=qqh (vA s.passes 0 ((t.drop at_).take j) (by rw [FX.out];omega))
           clear hown hbc qq
           go_wp2_with fail
           refine od.out.mono ?_
           rintro e wd ⟨⟨A4,n4,c4,rfl,JR⟩,hb4⟩
           have YO:=DG.out.below.size
           obtain⟨y,f1,f2,hall⟩:∃ y f1 f2,allI 0 s.passes ((t.drop at_).take j)=(y,(f1,f2)):=⟨_,_,_,rfl⟩
           have Q7:=qqh hall
           rw [hall]at JR MS ⊢
           dsimp only at JR MS ⊢
           have hba:=(Below.refl wd.heap.size wd).alloc (Nat.le_refl _) (.cells #[.int .i64 f1,.int .i64 f2] 32)
           have wS:=qqh ((DG.out.go hb4).go hba)
           have Dz:=qqh (Rd.below JR.of hba)
           have VO:=qqh (show y.length=n4 by have:=JR.1;rw [runeCells_length]at this;omega)
           have Iw:=qqh (ai.new wd 32 #[.int .i64 f1,.int .i64 f2])
           have VD:w.heap.size+1<wd.heap.size:=Nat.lt_of_lt_of_le DG.out.fau.lt hb4.size
           have CV:=qqh (show(t.drop at_).take j ≠ [] by intro e;have:=FX.out;rw [e]at this;simp at this;omega)
           clear JR hba hb4 od hall
           go_upto_region 15 with fail
           generalize Y2:wd.alloc (.cells #[.int .i64 f1,.int .i64 f2] 32)=WD at *
           have Zq:wd.heap.size<WD.heap.size:=Iw.out.lt
           clear Y2
           have q0:=Iw.out.cell 0
           have q1:=Iw.out.cell 1
           by_cases hf:f1=0
           · subst hf
             have AW:n4≤4000:=by rw [← VO.out];exact MS.out
             have mM:=qqh (BM CV.out Q7.out (out:=out))
             go_wp2_with (at_builtin;refine aj _ rfl (.tmp 66) (.tmp 67) 26 rfl w.heap.size 21 i0 _ 1 4 Tryz.underlying26 hi z0 z1 z2 rfl (by decide) _ no _ rfl wS.out.own _ A4 n4 c4 (runeCells y) rfl Dz.out (bf _) (by simp only [maxLen];omega) (by omega) wS.out.below.size ?_)
             intro ve we an
             have xB:=qqh (wS.out.push VO.out an)
             obtain⟨Ae,ce,rfl,_⟩:=aI xB.out.own
             clear an wS DG Dj Q7 CV q0 q1 Iw
             have IW:=(Below.refl we.heap.size we).alloc (Nat.le_refl _) (.cells #[.int .i32 x] 21)
             have iV:=qqh (xB.out.go IW)
             have Pq:=qqh (Rd.new we 21 1 1 [.int .i32 x] rfl)
             have dx2:we.cell? ⟨tb,MJ+en,none⟩=some (.int .i32 x):=(xB.out.below.cell (p:=⟨tb,MJ+en,none⟩) htb).trans (((Jd.out.below.cell (p:=⟨tb,MJ+en,none⟩) htb).symm).trans dx)
             clear IW
             go_wp2_with (at_builtin;refine aj _ rfl (.tmp 73) (.tmp 78) 26 rfl w.heap.size 21 i0 _ 1 4 Tryz.underlying26 hi z0 z1 z2 rfl (by decide) _ ((no+n4)) _ rfl iV.out.own _ (some ⟨we.heap.size,0,none⟩) 1 1 (runeCells [x]) rfl Pq.out (bf _) (by simp only [maxLen];omega) (by omega) iV.out.below.size ?_)
             intro vf wf an
             have jl:=qqh (iV.out.push (E:=[x]) rfl an)
             obtain⟨Af,cf,rfl,_⟩:=aI jl.out.own
             have xU:=qqh (show ot s t [] [] = ot s (t.drop (en+1)) [] ((out++y)++[x]) from FK.out.trans (Fz HMF.out mM.out))
             clear an iV Pq
             go_wp2_with fail
             exact⟨⟨en+1,(no+n4)+1,(out++y)++[x],by omega,by go_num,by omega,xU.out,jl.out⟩,by simp [intOf];omega⟩
           · have mM:=qqh (yw CV.out Q7.out hf (out:=out))
             have HG:=qqh (show O9 s t=([],(f1,f2)) by rw [NA.out,FK.out,Nh (s:=s) (t:=x::t.drop (en+1)) (fun x' t' e=>by cases e;exact HMF.out) mM.out hf,if_pos hf])
             have y0:=wS.out.fau.cell 0
             have y1:=wS.out.fau.cell 1
             have g0:=wS.out.fau.frozen 0
             have g1:=wS.out.fau.frozen 1
             have I5:¬ w.heap.size+1=wd.heap.size:=by omega
             have Gs:¬ wd.heap.size=w.heap.size+1:=by omega
             go_upto_region 16 with fail
             go_region
             all_goals
               go_wp2_with fail
               rw [HG.out]
               exact bodyPost_ret (v:=.tuple #[.slice none 0 0,.agg #[.int .i64 f1,.int .i64 f2]]) (by simp [results,Tryz.results15,go_sem,y0,y1]) rfl ⟨⟨none,0,0,rfl,⟨rfl,fun h=>absurd h (Nat.lt_irrefl 0)⟩⟩,((wS.out.below.setCell (by simp) _).setCell (by simp) _).drew⟩
       · have Nx:=qqh (Wx.out.trans (Ln (Mq.out.trans hh)))
         rw [HAS.out]at Nx
         clear hh
         go_wp2_with fail
         exact⟨⟨j+1,by omega,by go_num,by rw [← Nat.add_assoc,Xj];exact Nx.out,Y8.out.trans (HBH.out.mono Y8.out.size)⟩,by simp [intOf];omega⟩
    obtain rfl:en=nt:=(by omega);have Xv:decide ((en:Int)<(en:Int))=false:=decide_eq_false (by omega);go_upto_region 11 with fail;go_quiet (fail);have Dj:=qqh (show AG w cs (.slice Av no cv) out no (wr.drewN nq) from Jd.out.go (below_drewN (Below.refl _ _) nq));have Qj:0<j:=(by omega);generalize wr.drewN nq=wh at *;have hne:¬ ct=at_:=(by omega);have XV:en - at_=j:=(by omega);have oC:=qqh (cE.FP (X:=fun _=>True) (um.out _ Dj.out.below) (Nat.le_refl _) (fun _ _=>trivial));have Dw:=qX (vw oC.out (show at_≤en by omega)) (show j≤en - at_ by omega);rw [j5,iu]at Dw;have qq:=qqh (sX tb (MJ+at_) j (ct - at_) ((t.drop at_).take j) _ (by omega) Dw.of);have hgt:decide ((at_:Int)<(en:Int))=true:=decide_eq_true (by omega);clear Dw oC;go_wp2_with fail;refine qq.out.mono ?_;rintro e wc ⟨⟨v,rfl,hown⟩,hbc⟩;obtain⟨Ac,cc,rfl,_⟩:=aI hown;have DG:=qqh (Dj.out.go hbc);have od:=qqh (yu X (fun b=>w.heap.size≤b) s w.heap.size A1 A2 Ac n1 n2 c2 j cc ((t.drop at_).take j) wc (Xq.out wc DG.out.below) ((DG.out.scr.cell 2).trans DY.out.2.2) DG.out.scr.lt (by rw [FX.out];omega) (cE.ck hown (fun b hb=>Nat.le_trans Dj.out.below.size (aU hown hb).1)));have MS:=qqh (vA s.passes 0 ((t.drop at_).take j) (by rw [FX.out];omega));clear hown hbc qq;go_wp2_with fail;refine od.out.mono ?_;rintro e wd ⟨⟨A4,n4,c4,rfl,JR⟩,hb4⟩;have YO:=DG.out.below.size;obtain⟨y,f1,f2,hall⟩:∃ y f1 f2,allI 0 s.passes ((t.drop at_).take j)=(y,(f1,f2)):=⟨_,_,_,rfl⟩;have Q7:=qqh hall;rw [hall]at JR MS ⊢;dsimp only at JR MS ⊢;have hba:=(Below.refl wd.heap.size wd).alloc (Nat.le_refl _) (.cells #[.int .i64 f1,.int .i64 f2] 32);have wS:=qqh ((DG.out.go hb4).go hba);have Dz:=qqh (Rd.below JR.of hba)
    have VO:=qqh (show y.length=n4 by have:=JR.1;rw [runeCells_length]at this;omega);have Iw:=qqh (ai.new wd 32 #[.int .i64 f1,.int .i64 f2]);have VD:w.heap.size+1<wd.heap.size:=Nat.lt_of_lt_of_le DG.out.fau.lt hb4.size;have CV:=qqh (show(t.drop at_).take j ≠ [] by intro e;have:=FX.out;rw [e]at this;simp at this;omega);clear JR hba hb4 od hall;go_upto_region 15 with fail;generalize Y2:wd.alloc (.cells #[.int .i64 f1,.int .i64 f2] 32)=WD at *;have Zq:wd.heap.size<WD.heap.size:=Iw.out.lt;clear Y2;have q0:=Iw.out.cell 0;have q1:=Iw.out.cell 1;by_cases hf:f1=0
    ·subst hf;have AW:n4≤4000:=(by rw [← VO.out];exact MS.out);have mM:=qqh (BM CV.out Q7.out (out:=out));go_wp2_with (at_builtin;refine aj _ rfl (.tmp 66) (.tmp 67) 26 rfl w.heap.size 21 i0 _ 1 4 Tryz.underlying26 hi z0 z1 z2 rfl (by decide) _ no _ rfl wS.out.own _ A4 n4 c4 (runeCells y) rfl Dz.out (bf _) (by simp only [maxLen];omega) (by omega) wS.out.below.size ?_);intro ve we an;have xB:=qqh (wS.out.push VO.out an);obtain⟨Ae,ce,rfl,_⟩:=aI xB.out.own;clear an wS DG Dj Q7 CV q0 q1 Iw;have Om:ot s t [] [] = ot s (t.drop en) [] (out++y):=by
      rw [FK.out,List.drop_of_length_le (by omega),ot,ot,mM.out,rH]
     have xU:=qqh Om;clear Om;go_wp2_with fail;exact⟨⟨en,no+n4,out++y,Nat.le_refl _,rfl,by omega,xU.out,xB.out⟩,by simp [intOf];omega⟩
    have mM:=qqh (yw CV.out Q7.out hf (out:=out));have HG:=qqh (show O9 s t=([],(f1,f2)) by rw [NA.out,FK.out,List.drop_of_length_le (by omega),ot,mM.out,if_pos hf]);have y0:=wS.out.fau.cell 0;have y1:=wS.out.fau.cell 1;have g0:=wS.out.fau.frozen 0;have g1:=wS.out.fau.frozen 1;have I5:¬ w.heap.size+1=wd.heap.size:=(by omega);have Gs:¬ wd.heap.size=w.heap.size+1:=(by omega);go_upto_region 16 with fail;go_region
    all_goals
      go_wp2_with fail
      rw [HG.out]
      exact bodyPost_ret (v:=.tuple #[.slice none 0 0,.agg #[.int .i64 f1,.int .i64 f2]]) (by simp [results,Tryz.results15,go_sem,y0,y1]) rfl ⟨⟨none,0,0,rfl,⟨rfl,fun h=>absurd h (Nat.lt_irrefl 0)⟩⟩,((wS.out.below.setCell (by simp) _).setCell (by simp) _).drew⟩
   obtain rfl:at_=nt:=(by omega);have OK:=qqh (show ot s t [] [] =(out,(0,0)) by rw [dQ.out,List.drop_of_length_le (by omega),ot,rH]);have hlen:=ff.out.len;by_cases h4:4000<no
   ·have HG:=qqh (show O9 s t=([],(4,(n2:Int))) by rw [NA.out,OK.out,if_neg (fun h=>h rfl),if_pos (by rw [hlen];exact h4),sC.out]);have d2:wr.cell? ⟨w.heap.size,2,none⟩=some (.slice A2 n2 c2):=(hst.scr.cell 2).trans DY.out.2.2;have y0:=hst.fau.cell 0;have y1:=hst.fau.cell 1;have g0:=hst.fau.frozen 0;have g1:=hst.fau.frozen 1;have hne:¬ w.heap.size=w.heap.size+1:=(by omega);clear hst;go_upto_region 23 with fail;go_region
    all_goals
      go_wp2_with fail
      rw [HG.out]
      exact bodyPost_ret (v:=.tuple #[.slice none 0 0,.agg #[.int .i64 4,.int .i64 n2]]) (by simp [results,Tryz.results15,go_sem,y0,y1]) rfl ⟨⟨none,0,0,rfl,⟨rfl,fun h=>absurd h (Nat.lt_irrefl 0)⟩⟩,((ff.out.below.setCell (by simp) _).setCell (by simp) _).drew⟩
   have HG:=qqh (show O9 s t=(out,(0,0)) by rw [NA.out,OK.out,if_neg (fun h=>h rfl),if_neg (by rw [hlen];exact h4)]);have y0:=hst.fau.cell 0;have y1:=hst.fau.cell 1;have g0:=hst.fau.frozen 0;have g1:=hst.fau.frozen 1;have q1:=gl (i:=0) (u:=.int .i64 0) hst.own hst.fau (by decide);have q2:=gl (i:=1) (u:=.int .i64 0) q1 (hst.fau.put 0 _) (by decide);have pM:=qqh (cE.ck (X:=fun b=>w.heap.size≤b) q2 (fun b hb=>(aU q2 hb).1));clear hst q1 q2;go_wp2_with fail;rw [HG.out];exact bodyPost_ret (v:=.tuple #[.slice Av no cv,.agg #[.int .i64 0,.int .i64 0]]) (by simp [results,Tryz.results15,go_sem,y0,y1]) rfl ⟨⟨Av,no,cv,rfl,pM.out⟩,(ff.out.below.setCell (by simp) _).setCell (by simp) _⟩
  have HG:=qqh (Nq.out.trans (if_pos hz));have y0:=AX.out.cell 0;have y1:=AX.out.cell 1;have g0:=AX.out.frozen 0;have g1:=AX.out.frozen 1;go_wp2_with fail;rw [HG.out];exact bodyPost_ret (v:=.tuple #[.slice none 0 0,.agg #[.int .i64 tp,.int .i64 0]]) (by simp [results,Tryz.results15,go_sem,y0,y1]) rfl ⟨⟨none,0,0,rfl,⟨rfl,fun h=>absurd h (Nat.lt_irrefl 0)⟩⟩,(bF.out.setCell (by simp) _).setCell (by simp) _⟩
 have HG:=qqh (Ya.out.trans (if_pos hz));have y0:=Eu.out.cell 0;have y1:=Eu.out.cell 1;have g0:=Eu.out.frozen 0;have g1:=Eu.out.frozen 1;have I5:¬ w.heap.size+1=w1.heap.size:=(by omega);have Gs:¬ w1.heap.size=w.heap.size+1:=(by omega);go_upto_region 3 with fail;go_region
 all_goals
   go_wp2_with fail
   rw [HG.out]
   exact bodyPost_ret (v:=.tuple #[.slice none 0 0,.agg #[.int .i64 r1,.int .i64 r2]]) (by simp [results,Tryz.results15,go_sem,y0,y1]) rfl ⟨⟨none,0,0,rfl,⟨rfl,fun h=>absurd h (Nat.lt_irrefl 0)⟩⟩,((bw.out.setCell (by simp) _).setCell (by simp) _).drew⟩
end Go.Proofs.YthgkedoildcbcaaGreatDoor
