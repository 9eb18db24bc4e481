/- Script + ChainAll + RefRunAll + ChainGoAll -/
import Derived.Test.YtblinekbpcdbfaaGreatDoorZv34
import Derived.Deep.RegionWith
import Derived.Test.YtblinekbpcdbfaaGreatDoorZv28
import Derived.BigRegion
set_option maxHeartbeats 12800000
set_option maxRecDepth 100000
namespace Go.Proofs.YtblinekbpcdbfaaGreatDoor
open Go.RowKit
theorem oM {w:World} {g:Nat} {t:TypeId} {cs:Array Value} (h:aj w g t cs):aj w.drew g t cs:=h
def isNone (s:ByteArray):Bool:=s.toList == []
def i5 (p:cA):Int:=if isNone p.name=true then (eC p.rules).1 else if jR p.name=false then 7 else if 0<p.rules.length then 8 else 0
def fM:Nat→List cA→Int × Int
  | _,[]=>(0,0)
  | k,p::l=>if i5 p≠0 then (i5 p,(k:Int))else fM (k+1) l
def cP (s:bS):Int × Int :=
  if s.only? = true∧bA s.only≠0 then (bA s.only,0)else if 60<s.passes.length then (5,0)else fM 0 s.passes
structure iS (w:World) (X:Nat→Prop) (s:bS) (A1:Option Addr) (n1:Nat) (A2:Option Addr) (n2:Nat):Prop where
  only:cV w X 2 A1 n1 (an s.only)
  pas:ck (cU w X) w X 2 A2 n2 s.passes
  m1:n1≤maxLen
  m2:n2≤maxLen
theorem iS.keep {w w':World} {X X':Nat→Prop} {s:bS} {A1 A2:Option Addr} {n1 n2:Nat} (hk:ag w X w' X') (h:iS w X s A1 n1 A2 n2):iS w' X' s A1 n1 A2 n2 :=
  ⟨h.only.keep hk,h.pas.keep hk (fun _ _=>cU.keep hk),h.m1,h.m2⟩
theorem An {w:World} {X:Nat→Prop} {A:Option Addr} {n:Nat} {l:List cA} (h:ck (cU w X) w X 2 A n l) {k:Nat} {p:cA} (hk:l[k]? = some p) :
    ∃ (b off:Nat) (A':Option Addr) (n' c':Nat),A=some ⟨b,off,none⟩∧X b∧b<w.heap.size∧w.cell? ⟨b,off+k*2,none⟩=some (.string p.name)∧w.cell? ⟨b,off+k*2+1,none⟩=some (.slice A' n' c')∧ck (bC w X) w X 7 A' n' p.rules∧n'≤maxLen:=by
 obtain⟨b,off,cs,e,hx,hb,⟨u,rfl,A',n',c',rfl,h1,h2⟩,_,hc⟩:=h.at hk;have c0:=hc 0 _ rfl;have c1:=hc 1 _ rfl;rw [Nat.add_zero]at c0;exact⟨b,off,A',n',c',e,hx,hb,c0,c1,h1,h2⟩
theorem tv (a b:Int) (w:World):(Instr.field 38 (.agg #[.int .i64 a,.int .i64 b]) 0).run Tryz.prog w=.ok (.int .i64 a) w:=by kernel_rfl
def Rn (w:World) (s:bS) (n:Nat) (i:Value) (wr:World):Prop :=
  ∃ k:Nat,k≤n∧i=.int .i64 k∧fM 0 s.passes=fM k (s.passes.drop k)∧aj wr (w.heap.size+1) 38 #[.int .i64 0,.int .i64 0]∧Below w.heap.size w wr
theorem Dy (X:Nat→Prop) (s:bS) (A1 A2:Option Addr) (n1 c1 n2 c2:Nat) (w:World) (hs:iS w X s A1 n1 A2 n2) :
    Calls Tryz.prog 35 #[.agg #[.bool s.only?,.slice A1 n1 c1,.slice A2 n2 c2]] w fun e w'=>e=.returned (.agg #[.int .i64 (cP s).1,.int .i64 (cP s).2])∧Below w.heap.size w w':=by
 have OF:=hs.m1;have hm2:=hs.m2;have aW:=qqh (show s.passes.length=n2 from hs.pas.len);have HS:=qqh hs;have HX:=qqh (aj.alloc (aj.new w 47 #[.bool s.only?,.slice A1 n1 c1,.slice A2 n2 c2]) (.cells #[.int .i64 0,.int .i64 0] 38));have HF:=qqh (show aj ((w.alloc (.cells #[.bool s.only?,.slice A1 n1 c1,.slice A2 n2 c2] 47)).alloc (.cells #[.int .i64 0,.int .i64 0] 38)) (w.heap.size+1) 38 #[.int .i64 0,.int .i64 0] by
  have:=aj.new (w.alloc (.cells #[.bool s.only?,.slice A1 n1 c1,.slice A2 n2 c2] 47)) 38 #[.int .i64 0,.int .i64 0];simpa using this)
 have HB:=qqh (((Below.refl w.heap.size w).alloc qql (.cells #[.bool s.only?,.slice A1 n1 c1,.slice A2 n2 c2] 47)).alloc (by simp) (.cells #[.int .i64 0,.int .i64 0] 38));simp only [maxLen]at OF hm2;clear hs;go_enter Tryz.func35,Tryz.ntmps35;go_upto_region 1 with fail;generalize (w.alloc (.cells #[.bool s.only?,.slice A1 n1 c1,.slice A2 n2 c2] 47)).alloc (.cells #[.int .i64 0,.int .i64 0] 38)=W0 at *;have x0:W0.cell? ⟨w.heap.size,0,none⟩=some (.bool s.only?):=HX.out.cell 0;cases ho:s.only?
 ·have OC:=qqh (show cP s=if 60<s.passes.length then (5,0)else fM 0 s.passes by unfold cP;rw [if_neg (by rw [ho];intro h;cases h.1)]);rw [ho]at x0;clear ho;have x2:W0.cell? ⟨w.heap.size,2,none⟩=some (.slice A2 n2 c2):=HX.out.cell 2;have y0:=HF.out.cell 0;have y1:=HF.out.cell 1;have g0:=HF.out.frozen 0;have g1:=HF.out.frozen 1;by_cases zE:60<n2
  ·have HG:=qqh (show cP s=(5,0) by rw [OC.out,if_pos (by rw [aW.out];exact zE)]);have hgt:decide ((60:Int)<(n2:Int))=true:=decide_eq_true (by omega);go_wp2_with fail;rw [HG.out];exact bodyPost_ret (v:=.agg #[.int .i64 5,.int .i64 0]) (by simp [results,Tryz.results35,go_sem,y0,y1]) rfl ⟨rfl,(HB.out.setCell (by simp) _).setCell (by simp) _⟩
  have K2:=qqh (show cP s=fM 0 s.passes by rw [OC.out,if_neg (by rw [aW.out];exact zE)]);have hgt:decide ((60:Int)<(n2:Int))=false:=decide_eq_false (by omega);clear OC y0 y1 g0 g1;go_wp2_with fail;go_loopw [24] (Rn w s n2) (fun i _=>n2 - (intOf i).toNat);(case atStart=>exact⟨0,Nat.zero_le _,rfl,rfl,HF.out,HB.out⟩);obtain⟨k,hk,rfl,aZ,hf,hb⟩:=hrel;have hz:=hb.size;by_cases hlt:k<n2
  ·obtain⟨p,hp⟩:∃ z,s.passes[k]? = some z:=⟨_,List.getElem?_eq_getElem (by rw [aW.out];exact hlt)⟩;obtain⟨b,off,A',n',c',rfl,_,ey,e0,e1,hr,hn'⟩:=An (HS.out.pas.keep (ag.any hb) (fun _ _=>cU.keep (ag.any hb))) hp;rw [cT hp,fM]at aZ;have eU:=qqh aZ;have hba:=(Below.refl wr.heap.size wr).alloc qql (.cells #[.string p.name,.slice A' n' c'] 129);have HR:=qqh (hr.keep (ag.any hba) (fun _ _=>bC.keep (ag.any hba)));have fo:=qqh (hf.alloc (.cells #[.string p.name,.slice A' n' c'] 129));have bL:=qqh (hb.trans (hba.mono hz));have HP:=qqh (aj.new wr 129 #[.string p.name,.slice A' n' c']);have qB:=qqh (show p.rules.length=n' from hr.len);clear aZ hr hf hb hba hp;go_upto_region 10 with fail;generalize hW:wr.alloc (.cells #[.string p.name,.slice A' n' c'] 129)=W at *;have hwz:wr.heap.size<W.heap.size:=HP.out.lt;clear hW e0 e1;have p0:W.cell? ⟨wr.heap.size,0,none⟩=some (.string p.name):=HP.out.cell 0;have p1:W.cell? ⟨wr.heap.size,1,none⟩=some (.slice A' n' c'):=HP.out.cell 1;have y0:=fo.out.cell 0;have y1:=fo.out.cell 1;have g0:=fo.out.frozen 0;have g1:=fo.out.frozen 1;cases en:isNone p.name
   ·have en1:(p.name.toList == [])=false:=en;have Hh:=qqh (show i5 p=if jR p.name=false then 7 else if 0<p.rules.length then 8 else 0 by unfold i5;rw [en];rfl);clear en;obtain⟨pb,hpb⟩:∃ pb,jR p.name=pb:=⟨_,rfl⟩;have SF:=qqh hpb;rw [hpb]at Hh;clear hpb;have bM:=qqh (fun(q:Nat)=>below_drewN (bL.out.alloc bL.out.size (.cells #[.string fE,.string kI,.string gX,.string fB] 9)) q);have eI:=qqh (fo.out.alloc (.cells #[.string fE,.string kI,.string gX,.string fB] 9));have iX:=qqh (HP.out.alloc (.cells #[.string fE,.string kI,.string gX,.string fB] 9));go_upto_region 13 with fail;go_region_with (first | (go_at_call 55;refine(iK _).mono ?_;rintro e w' ⟨rfl,rfl⟩) | (go_at_call 54;refine(rD _ p.name _ SF.out _ (oM (aj.new _ _ _))).mono ?_;rintro e w' ⟨rfl,rfl⟩))
    all_goals
      have y0:=eI.out.cell 0
      have y1:=eI.out.cell 1
      have g0:=eI.out.frozen 0
      have g1:=eI.out.frozen 1
      have p0:=iX.out.cell 0
      have p1:=iX.out.cell 1
      cases pb
      · have HG:=qqh (show cP s=(7,(k:Int)) by rw [K2.out,eU.out,(show i5 p=7 by rw [Hh.out,if_pos rfl]),if_pos (by decide)])
        go_wp2_with fail
        rw [HG.out]
        exact bodyPost_ret (v:=.agg #[.int .i64 7,.int .i64 k]) (by simp [results,Tryz.results35,go_sem,y0,y1]) rfl ⟨rfl,((bM.out _).setCell (by simp) _).setCell (by simp) _⟩
      · by_cases h0:0<n'
        · have HG:=qqh (show cP s=(8,(k:Int)) by rw [K2.out,eU.out,(show i5 p=8 by rw [Hh.out,if_neg (by decide),if_pos (by rw [qB.out];exact h0)]),if_pos (by decide)])
          go_wp2_with fail
          rw [HG.out]
          exact bodyPost_ret (v:=.agg #[.int .i64 8,.int .i64 k]) (by simp [results,Tryz.results35,go_sem,y0,y1]) rfl ⟨rfl,((bM.out _).setCell (by simp) _).setCell (by simp) _⟩
        · have HZ:=qqh (show i5 p=0 by rw [Hh.out,if_neg (by decide),if_neg (by rw [qB.out];exact h0)])
          have HG:=qqh (eU.out.trans (if_neg (fun h=>h HZ.out)))
          obtain rfl:n'=0:=by omega
          go_wp2_with fail
          exact⟨⟨k+1,by omega,by go_num,HG.out,oM eI.out,bM.out _⟩,by simp [intOf];omega⟩
   have en1:(p.name.toList == [])=true:=en;have HW:=qqh (show i5 p=(eC p.rules).1 by unfold i5;rw [en];rfl);clear en;obtain⟨r1,r2,hR⟩:∃ r1 r2,eC p.rules=(r1,r2):=⟨_,_,rfl⟩;have Br:=qqh (oK X p.rules A' n' c' W hn' HR.out);rw [hR]at Br HW;dsimp only at Br HW;clear hR;have Gp:=fun(W:World)=>tv r1 r2 W;go_wp2_with fail;refine Br.out.mono ?_;rintro e w3 ⟨rfl,bP⟩;have eI:=qqh (aj.below fo.out bP fo.out.lt);have bM:=qqh (bL.out.trans (bP.mono bL.out.size));have y0:=eI.out.cell 0;have y1:=eI.out.cell 1;have g0:=eI.out.frozen 0;have g1:=eI.out.frozen 1;clear bP p0 p1;by_cases oQ:r1=0
   ·subst oQ;have HZ:=qqh (show i5 p=0 from HW.out);have HG:=qqh (eU.out.trans (if_neg (fun h=>h HZ.out)));go_wp2_with fail;exact⟨⟨k+1,by omega,by go_num,HG.out,eI.out,bM.out⟩,by simp [intOf];omega⟩
   have HG:=qqh (show cP s=(r1,(k:Int)) by rw [K2.out,eU.out,HW.out,if_pos oQ]);go_wp2_with fail;rw [HG.out];exact bodyPost_ret (v:=.agg #[.int .i64 r1,.int .i64 k]) (by simp [results,Tryz.results35,go_sem,y0,y1]) rfl ⟨rfl,(bM.out.setCell (by simp) _).setCell (by simp) _⟩
  obtain rfl:k=n2:=(by omega);rw [List.drop_of_length_le (by rw [aW.out];exact qql),fM]at aZ;have HG:=qqh (K2.out.trans aZ);have y0:=hf.cell 0;have y1:=hf.cell 1;have g0:=hf.frozen 0;have g1:=hf.frozen 1;clear aZ hf;go_wp2_with fail;rw [HG.out];exact bodyPost_ret (v:=.agg #[.int .i64 0,.int .i64 0]) (by simp [results,Tryz.results35,go_sem,y0,y1]) rfl ⟨rfl,(hb.setCell (by simp) _).setCell (by simp) _⟩
 have x1:W0.cell? ⟨w.heap.size,1,none⟩=some (.slice A1 n1 c1):=HX.out.cell 1;have V2:=qqh (iy A1 n1 c1 s.only W0 (by omega) (cV.of (HS.out.only.keep (ag.any HB.out))));rw [ho]at x0;go_wp2_with fail;refine V2.out.mono ?_;rintro e w1 ⟨rfl,aT⟩;have HX:=qqh (aj.below HX.out aT HX.out.lt);have HF:=qqh (aj.below HF.out aT HF.out.lt);have HB:=qqh (HB.out.trans (aT.mono HB.out.size));clear aT V2 x0 x1;by_cases hz:bA s.only=0
 ·have OC:=qqh (show cP s=if 60<s.passes.length then (5,0)else fM 0 s.passes by unfold cP;rw [if_neg (fun h=>h.2 hz)]);rw [hz];clear hz ho;have x2:w1.cell? ⟨w.heap.size,2,none⟩=some (.slice A2 n2 c2):=HX.out.cell 2;have y0:=HF.out.cell 0;have y1:=HF.out.cell 1;have g0:=HF.out.frozen 0;have g1:=HF.out.frozen 1;by_cases zE:60<n2
  ·have HG:=qqh (show cP s=(5,0) by rw [OC.out,if_pos (by rw [aW.out];exact zE)]);have hgt:decide ((60:Int)<(n2:Int))=true:=decide_eq_true (by omega);go_wp2_with fail;rw [HG.out];exact bodyPost_ret (v:=.agg #[.int .i64 5,.int .i64 0]) (by simp [results,Tryz.results35,go_sem,y0,y1]) rfl ⟨rfl,(HB.out.setCell (by simp) _).setCell (by simp) _⟩
  have K2:=qqh (show cP s=fM 0 s.passes by rw [OC.out,if_neg (by rw [aW.out];exact zE)]);have hgt:decide ((60:Int)<(n2:Int))=false:=decide_eq_false (by omega);clear OC y0 y1 g0 g1;go_wp2_with fail;go_loopw [24] (Rn w s n2) (fun i _=>n2 - (intOf i).toNat);(case atStart=>exact⟨0,Nat.zero_le _,rfl,rfl,HF.out,HB.out⟩);obtain⟨k,hk,rfl,aZ,hf,hb⟩:=hrel;have hz:=hb.size;by_cases hlt:k<n2
  ·obtain⟨p,hp⟩:∃ z,s.passes[k]? = some z:=⟨_,List.getElem?_eq_getElem (by rw [aW.out];exact hlt)⟩;obtain⟨b,off,A',n',c',rfl,_,ey,e0,e1,hr,hn'⟩:=An (HS.out.pas.keep (ag.any hb) (fun _ _=>cU.keep (ag.any hb))) hp;rw [cT hp,fM]at aZ;have eU:=qqh aZ;have hba:=(Below.refl wr.heap.size wr).alloc qql (.cells #[.string p.name,.slice A' n' c'] 129);have HR:=qqh (hr.keep (ag.any hba) (fun _ _=>bC.keep (ag.any hba)));have fo:=qqh (hf.alloc (.cells #[.string p.name,.slice A' n' c'] 129));have bL:=qqh (hb.trans (hba.mono hz));have HP:=qqh (aj.new wr 129 #[.string p.name,.slice A' n' c']);have qB:=qqh (show p.rules.length=n' from hr.len);clear aZ hr hf hb hba hp;go_upto_region 10 with fail;generalize hW:wr.alloc (.cells #[.string p.name,.slice A' n' c'] 129)=W at *;have hwz:wr.heap.size<W.heap.size:=HP.out.lt;clear hW e0 e1;have p0:W.cell? ⟨wr.heap.size,0,none⟩=some (.string p.name):=HP.out.cell 0;have p1:W.cell? ⟨wr.heap.size,1,none⟩=some (.slice A' n' c'):=HP.out.cell 1;have y0:=fo.out.cell 0;have y1:=fo.out.cell 1;have g0:=fo.out.frozen 0;have g1:=fo.out.frozen 1;cases en:isNone p.name
   ·have en1:(p.name.toList == [])=false:=en;have Hh:=qqh (show i5 p=if jR p.name=false then 7 else if 0<p.rules.length then 8 else 0 by unfold i5;rw [en];rfl);clear en;obtain⟨pb,hpb⟩:∃ pb,jR p.name=pb:=⟨_,rfl⟩;have SF:=qqh hpb;rw [hpb]at Hh;clear hpb;have bM:=qqh (fun(q:Nat)=>below_drewN (bL.out.alloc bL.out.size (.cells #[.string fE,.string kI,.string gX,.string fB] 9)) q);have eI:=qqh (fo.out.alloc (.cells #[.string fE,.string kI,.string gX,.string fB] 9));have iX:=qqh (HP.out.alloc (.cells #[.string fE,.string kI,.string gX,.string fB] 9));go_upto_region 13 with fail;go_region_with (first | (go_at_call 55;refine(iK _).mono ?_;rintro e w' ⟨rfl,rfl⟩) | (go_at_call 54;refine(rD _ p.name _ SF.out _ (oM (aj.new _ _ _))).mono ?_;rintro e w' ⟨rfl,rfl⟩))
    all_goals
      have y0:=eI.out.cell 0
      have y1:=eI.out.cell 1
      have g0:=eI.out.frozen 0
      have g1:=eI.out.frozen 1
      have p0:=iX.out.cell 0
      have p1:=iX.out.cell 1
      cases pb
      · have HG:=qqh (show cP s=(7,(k:Int)) by rw [K2.out,eU.out,(show i5 p=7 by rw [Hh.out,if_pos rfl]),if_pos (by decide)])
        go_wp2_with fail
        rw [HG.out]
        exact bodyPost_ret (v:=.agg #[.int .i64 7,.int .i64 k]) (by simp [results,Tryz.results35,go_sem,y0,y1]) rfl ⟨rfl,((bM.out _).setCell (by simp) _).setCell (by simp) _⟩
      · by_cases h0:0<n'
        · have HG:=qqh (show cP s=(8,(k:Int)) by rw [K2.out,eU.out,(show i5 p=8 by rw [Hh.out,if_neg (by decide),if_pos (by rw [qB.out];exact h0)]),if_pos (by decide)])
          go_wp2_with fail
          rw [HG.out]
          exact bodyPost_ret (v:=.agg #[.int .i64 8,.int .i64 k]) (by simp [results,Tryz.results35,go_sem,y0,y1]) rfl ⟨rfl,((bM.out _).setCell (by simp) _).setCell (by simp) _⟩
        · have HZ:=qqh (show i5 p=0 by rw [Hh.out,if_neg (by decide),if_neg (by rw [qB.out];exact h0)])
          have HG:=qqh (eU.out.trans (if_neg (fun h=>h HZ.out)))
          obtain rfl:n'=0:=by omega
          go_wp2_with fail
          exact⟨⟨k+1,by omega,by go_num,HG.out,oM eI.out,bM.out _⟩,by simp [intOf];omega⟩
   have en1:(p.name.toList == [])=true:=en;have HW:=qqh (show i5 p=(eC p.rules).1 by unfold i5;rw [en];rfl);clear en;obtain⟨r1,r2,hR⟩:∃ r1 r2,eC p.rules=(r1,r2):=⟨_,_,rfl⟩;have Br:=qqh (oK X p.rules A' n' c' W hn' HR.out);rw [hR]at Br HW;dsimp only at Br HW;clear hR;have Gp:=fun(W:World)=>tv r1 r2 W;go_wp2_with fail;refine Br.out.mono ?_;rintro e w3 ⟨rfl,bP⟩;have eI:=qqh (aj.below fo.out bP fo.out.lt);have bM:=qqh (bL.out.trans (bP.mono bL.out.size));have y0:=eI.out.cell 0;have y1:=eI.out.cell 1;have g0:=eI.out.frozen 0;have g1:=eI.out.frozen 1;clear bP p0 p1;by_cases oQ:r1=0
   ·subst oQ;have HZ:=qqh (show i5 p=0 from HW.out);have HG:=qqh (eU.out.trans (if_neg (fun h=>h HZ.out)));go_wp2_with fail;exact⟨⟨k+1,by omega,by go_num,HG.out,eI.out,bM.out⟩,by simp [intOf];omega⟩
   have HG:=qqh (show cP s=(r1,(k:Int)) by rw [K2.out,eU.out,HW.out,if_pos oQ]);go_wp2_with fail;rw [HG.out];exact bodyPost_ret (v:=.agg #[.int .i64 r1,.int .i64 k]) (by simp [results,Tryz.results35,go_sem,y0,y1]) rfl ⟨rfl,(bM.out.setCell (by simp) _).setCell (by simp) _⟩
  obtain rfl:k=n2:=(by omega);rw [List.drop_of_length_le (by rw [aW.out];exact qql),fM]at aZ;have HG:=qqh (K2.out.trans aZ);have y0:=hf.cell 0;have y1:=hf.cell 1;have g0:=hf.frozen 0;have g1:=hf.frozen 1;clear aZ hf;go_wp2_with fail;rw [HG.out];exact bodyPost_ret (v:=.agg #[.int .i64 0,.int .i64 0]) (by simp [results,Tryz.results35,go_sem,y0,y1]) rfl ⟨rfl,(hb.setCell (by simp) _).setCell (by simp) _⟩
 have HG:=qqh (show cP s=(bA s.only,0) by unfold cP;rw [if_pos ⟨ho,hz⟩]);have y0:=HF.out.cell 0;have y1:=HF.out.cell 1;have g0:=HF.out.frozen 0;have g1:=HF.out.frozen 1;generalize bA s.only=wp at *;go_wp2_with fail;rw [HG.out];exact bodyPost_ret (v:=.agg #[.int .i64 wp,.int .i64 0]) (by simp [results,Tryz.results35,go_sem,y0,y1]) rfl ⟨rfl,(HB.out.setCell (by simp) _).setCell (by simp) _⟩
theorem CU (l:List aB):∀ (left:Nat) (done rest:List Int) (s p:Nat),done.length+rest.length≤4000→(fA l left done rest s p).1.text.length≤4000:=by
 intro left;induction left with
 | zero=>
  intro done rest s p h;cases rest with
  | nil=>simpa [sg] using h
  | cons z rest=>exact Nat.zero_le _
 | succ left ih=>
  intro done rest s p h;cases rest with
  | nil=>simpa [sg] using h
  | cons z rest=>
   rw [fA];split
   ·refine ih _ _ _ _ ?_;simp only [List.length_append,List.length_cons,List.length_nil]at h ⊢;omega
   split;exact Nat.zero_le _;split;exact Nat.zero_le _;rename_i hm;refine ih _ _ _ _ ?_;rw [List.length_append,Nat.add_assoc,← List.length_append,List.take_append_drop];omega
theorem tj {t:List Int} (h:cm t=0):t.length≤4000:=by
 unfold cm at h;by_cases h4:4000<t.length
 ·rw [if_pos h4]at h;cases h
 omega
theorem F3 (l:List aB) (t:List Int):(iT l t).1.text.length≤4000:=by
 unfold iT;split;exact Nat.zero_le _;split;exact Nat.zero_le _;rename_i h;split;exact Nat.zero_le _;unfold CV;split;exact Nat.zero_le _;exact CU l _ _ _ _ _ (by have:=tj (t:=t) (by omega);simpa using this)
theorem xg (p:cA) {l:List Int} (h:l.length≤4000):(i7 p l).1.length≤4000:=by
 unfold i7;split
 ·simpa using h
 split
 ·simpa using h
 split;exact Nat.zero_le _;split;exact h;exact F3 _ _
def allI:Nat→List cA→List Int→List Int × (Int × Int)
  | _,[],l=>(l,(0,0))
  | k,p::ps,l=>if (i7 p l).2≠0 then ([],((i7 p l).2,(k:Int)))else allI (k+1) ps (i7 p l).1
theorem xw:∀ (ps:List cA) (k:Nat) (l:List Int),l.length≤4000→(allI k ps l).1.length≤4000:=by
 intro ps;induction ps with
 | nil=>intro k l h;exact h
 | cons p ps ih=>
  intro k l h;rw [allI];split;exact Nat.zero_le _;exact ih _ _ (xg p h)
def Pz (Y:Nat→Prop) (lo:Nat) (w':World) (o:List Int × (Int × Int)) (e:Ending):Prop :=
  ∃ (A:Option Addr) (n c:Nat),e=.returned (.tuple #[.slice A n c,.agg #[.int .i64 o.2.1,.int .i64 o.2.2]])∧cV w' (fun b=>Y b∨lo≤b) 1 A n (runeCells o.1)
def XH (w:World) (Y:Nat→Prop) (s:bS) (l:List Int) (n2:Nat) (s1 i:Value) (wr:World):Prop :=
  ∃ (k:Nat) (l':List Int) (A:Option Addr) (n c:Nat),k≤n2∧i=.int .i64 k∧s1=.slice A n c∧cV wr (fun b=>Y b∨w.heap.size≤b) 1 A n (runeCells l')∧cV wr (fun b=>(Y b∨w.heap.size≤b)∧b≠w.heap.size) 1 A n (runeCells l')∧l'.length≤4000∧allI 0 s.passes l=allI k (s.passes.drop k) l'∧aj wr w.heap.size 38 #[.int .i64 0,.int .i64 0]∧Below w.heap.size w wr
theorem zS (X Y:Nat→Prop) (s:bS) (b0:Nat) (A1 A2 A:Option Addr) (n1 n2 c2 n c:Nat) (l:List Int) (w:World) (hs:iS w X s A1 n1 A2 n2) (h0:w.cell? ⟨b0,2,none⟩=some (.slice A2 n2 c2)) (hb0:b0<w.heap.size) (YJ:l.length≤4000) (hl:cV w Y 1 A n (runeCells l)) :
    Calls Tryz.prog 37 #[.pointer (some ⟨b0,0,none⟩),.slice A n c] w fun e w'=>Pz Y w.heap.size w' (allI 0 s.passes l) e∧Below w.heap.size w w':=by
 have hm2:=hs.m2;have hba:=(Below.refl w.heap.size w).alloc qql (.cells #[.int .i64 0,.int .i64 0] 38);have d2:(w.alloc (.cells #[.int .i64 0,.int .i64 0] 38)).cell? ⟨b0,2,none⟩=some (.slice A2 n2 c2):=(hba.cell (p:=⟨b0,2,none⟩) hb0).trans h0;have aW:=qqh (show s.passes.length=n2 from hs.pas.len);have HS:=qqh hs;have rT:=qqh (aj.new w 38 #[.int .i64 0,.int .i64 0]);have ep:=qqh hba;have RI:=qqh (hl.keep (X':=fun b=>Y b∨w.heap.size≤b) (ag.below hba (fun _ h _=>.inl h)));have Ht:=qqh (hl.keep (X':=fun b=>(Y b∨w.heap.size≤b)∧b≠w.heap.size) (ag.below hba (fun b h hl=>⟨.inl h,by omega⟩)));have VJ:=qqh YJ;clear hs hba hl h0;simp only [maxLen]at hm2;go_enter Tryz.func37,Tryz.ntmps37;go_wp2_with fail;go_loopw [1,14] (XH w Y s l n2) (fun _ i _=>n2 - (intOf i).toNat);(case atStart=>exact⟨0,l,A,n,c,Nat.zero_le _,rfl,rfl,RI.out,Ht.out,VJ.out,rfl,rT.out,ep.out⟩);obtain⟨k,l',A',n',c',hk,rfl,rfl,hl,hl',aab,aZ,hf,hb⟩:=hrel;have hz:=hb.size;have Z4:=hl.1;rw [runeCells_length]at Z4;by_cases hlt:k<n2
 ·obtain⟨p,hp⟩:∃ z,s.passes[k]? = some z:=⟨_,List.getElem?_eq_getElem (by rw [aW.out];exact hlt)⟩;obtain⟨b,off,Ar,nr,cr,rfl,_,ey,e0,e1,hr,Q4⟩:=An (HS.out.pas.keep (ag.any hb) (fun _ _=>cU.keep (ag.any hb))) hp;rw [cT hp,allI]at aZ;have eU:=qqh aZ;have hba:=(Below.refl wr.heap.size wr).alloc qql (.cells #[.string p.name,.slice Ar nr cr] 129);have fo:=qqh (hf.alloc (.cells #[.string p.name,.slice Ar nr cr] 129));have bL:=qqh (hb.trans (hba.mono hz));have HP:=qqh (aj.new wr 129 #[.string p.name,.slice Ar nr cr]);have HM:=qqh (Fg X (fun b=>(Y b∨w.heap.size≤b)∧b≠w.heap.size) p Ar A' nr cr n' c' l' (wr.alloc (.cells #[.string p.name,.slice Ar nr cr] 129)) Q4 (hr.keep (ag.any hba) (fun _ _=>bC.keep (ag.any hba))) (by omega) (hl'.keep (ag.any hba)));have QB:=qqh (xg p aab);clear aZ hr hf hb hba hp hl hl';go_upto_region 4 with fail;generalize hW:wr.alloc (.cells #[.string p.name,.slice Ar nr cr] 129)=W at *;have hwz:wr.heap.size<W.heap.size:=HP.out.lt;clear hW e0 e1;have p0:W.cell? ⟨wr.heap.size,0,none⟩=some (.string p.name):=HP.out.cell 0;have p1:W.cell? ⟨wr.heap.size,1,none⟩=some (.slice Ar nr cr):=HP.out.cell 1;go_wp2_with fail;refine HM.out.mono ?_;rintro e w3 ⟨⟨A3,n3,c3,rfl,lJ⟩,bP⟩;have hwW:=fo.out.lt;have pO:=qqh (lJ.keep (X':=fun b=>Y b∨w.heap.size≤b) (ag.refl (fun b h=>by rcases h with h | h;exact h.1;exact .inr (by omega))));have TM:=qqh (lJ.keep (X':=fun b=>(Y b∨w.heap.size≤b)∧b≠w.heap.size) (ag.refl (fun b h=>by rcases h with h | h;exact h;exact⟨.inr (by omega),by omega⟩)));have eI:=qqh (aj.below fo.out bP fo.out.lt);have bM:=qqh (bL.out.trans (bP.mono bL.out.size));have y0:=eI.out.cell 0
  have y1:=eI.out.cell 1;have g0:=eI.out.frozen 0;have g1:=eI.out.frozen 1;obtain⟨x,f,hx⟩:∃ x f,i7 p l'=(x,f):=⟨_,_,rfl⟩;rw [hx]at eU QB pO TM ⊢;dsimp only at eU QB pO TM ⊢;clear bP lJ p0 p1 HM hx;by_cases hf0:f=0
  ·subst hf0;have HG:=qqh (eU.out.trans (if_neg (fun h=>h rfl)));go_wp2_with fail;exact⟨⟨k+1,x,A3,n3,c3,by omega,by go_num,rfl,pO.out,TM.out,QB.out,HG.out,eI.out,bM.out⟩,by simp [intOf];omega⟩
  have HG:=qqh (eU.out.trans (if_pos hf0));go_wp2_with fail;rw [HG.out];exact bodyPost_ret (v:=.tuple #[.slice none 0 0,.agg #[.int .i64 f,.int .i64 k]]) (by simp [results,Tryz.results37,go_sem,y0,y1]) rfl ⟨⟨none,0,0,rfl,⟨rfl,fun h=>absurd h (Nat.lt_irrefl 0)⟩⟩,(bM.out.setCell (by simp) _).setCell (by simp) _⟩
 obtain rfl:k=n2:=(by omega);rw [List.drop_of_length_le (by rw [aW.out];exact qql),allI]at aZ;have HG:=qqh aZ;have y0:=hf.cell 0;have y1:=hf.cell 1;have g0:=hf.frozen 0;have g1:=hf.frozen 1;have HR:=qqh ((hl'.keep (ag.setCell (X':=fun b=>(Y b∨w.heap.size≤b)∧b≠w.heap.size) (p:=⟨w.heap.size,0,none⟩) (.int .i64 0) (fun b h=>h.2) (fun _ h _=>h))).keep (ag.setCell (X':=fun b=>Y b∨w.heap.size≤b) (p:=⟨w.heap.size,1,none⟩) (.int .i64 0) (fun b h=>h.2) (fun _ h _=>h.1)));have HB:=qqh hb;clear aZ hl hl' hf hb;go_wp2_with fail;rw [HG.out];exact bodyPost_ret (v:=.tuple #[.slice A' n' c',.agg #[.int .i64 0,.int .i64 0]]) (by simp [results,Tryz.results37,go_sem,y0,y1]) rfl ⟨⟨A',n',c',rfl,HR.out⟩,(HB.out.setCell (by simp) _).setCell (by simp) _⟩
theorem Df {w:World} {X:Nat→Prop} {A:Option Addr} {n k:Nat} {xs:List Value} (h:cV w X 1 A n xs) (hk:k≤n):cV w X 1 A k (xs.take k):=by
 refine⟨by rw [List.length_take,h.1];omega,fun h0=>?_⟩;obtain⟨b,off,e,hx,hl,hc⟩:=h.2 (by omega);refine⟨b,off,e,hx,hl,fun j u hu=>hc j u ?_⟩;rw [List.getElem?_take]at hu;split at hu;exact hu;cases hu
theorem C' {w:World} {X:Nat→Prop} {b off n k:Nat} {xs:List Value} (h:cV w X 1 (some ⟨b,off,none⟩) n xs) (hk:k≤n):cV w X 1 (some ⟨b,off+k,none⟩) (n - k) (xs.drop k):=by
 refine⟨by rw [List.length_drop,h.1];omega,fun h0=>?_⟩;obtain⟨b',off',e,hx,hl,hc⟩:=h.2 (by omega);cases e;refine⟨b,off+k,rfl,hx,hl,fun j u hu=>?_⟩;rw [List.getElem?_drop]at hu;have:=hc _ u hu;rwa [← Nat.add_assoc]at this
theorem nR (E:List Int) (k:Nat):(runeCells E).drop k=runeCells (E.drop k):=by simp [runeCells]
theorem nP (E:List Int) (k:Nat):(runeCells E).take k=runeCells (E.take k):=by simp [runeCells]
def UP (lo M:Nat) (v:Value) (b:Nat):Prop:=lo≤b∧b≠M∧v.ownBlock≠some b
structure LJ (w:World) (M:Nat) (s8:Value) (done:List Int) (nd:Nat) (b9 o9 nz:Nat) (rest:List Int) (st pt:Int) (wr:World):Prop where
  own:wr.ownsRow w.heap.size 21 1 s8 nd (runeCells done)
  rd:cV wr (UP w.heap.size M s8) 1 (some ⟨b9,o9,none⟩) nz (runeCells rest)
  out:aj wr M 176 #[.slice none 0 0,.int .i64 st,.int .i64 pt]
  r4:aj wr w.heap.size 176 #[.slice none 0 0,.int .i64 0,.int .i64 0]
  r5:aj wr (w.heap.size+1) 38 #[.int .i64 0,.int .i64 0]
  below:Below w.heap.size w wr
  dl:done.length=nd
  ml:w.heap.size+1<M
section
variable {w wr w' : World} {M nd b9 o9 nz : Nat} {s8 : Value} {done rest : List Int} {st pt : Int}
theorem LJ.set (h:LJ w M s8 done nd b9 o9 nz rest st pt wr) (i:Nat) (u:Value) {st' pt':Int} (he:(#[.slice none 0 0,.int .i64 st,.int .i64 pt]:Array Value).setIfInBounds i u = #[.slice none 0 0,.int .i64 st',.int .i64 pt']) :
    LJ w M s8 done nd b9 o9 nz rest st' pt' (wr.setCell ⟨M,i,none⟩ u) :=
  ⟨gn h.own h.out (by decide),h.rd.keep (ag.setCell u (fun b hb=>hb.2.1) (fun _ hb _=>hb)),by rw [← he];exact h.out.put i u,
    (by have:=h.ml;exact(Below.heap_setCell _ _ _ _ (by simp only;omega)).trans h.r4),(by have:=h.ml;exact(Below.heap_setCell _ _ _ _ (by simp only;omega)).trans h.r5),h.below.setCell (by have:=h.ml;simp only;omega) u,h.dl,h.ml⟩
end
def tK (s:bS) (x:Int):Bool:=!s.only? || aO s.only x
def jG (s:bS) (pc out:List Int):List Int × (Int × Int) :=
  if pc = []then (out,(0,0))else if (allI 0 s.passes pc).2.1≠0 then ([],(allI 0 s.passes pc).2)else (out++(allI 0 s.passes pc).1,(0,0))
def oW (s:bS):List Int→List Int→List Int→List Int × (Int × Int)
  | [],pc,out=>jG s pc out
  | x::t,pc,out=>if tK s x=true then oW s t (pc++[x]) out else if (jG s pc out).2.1≠0 then ([],(jG s pc out).2)else oW s t [] ((jG s pc out).1++[x])
def Rt (s:bS) (t:List Int):List Int × (Int × Int) :=
  if (cP s).1≠0 then ([],cP s)else if cm t≠0 then ([],(cm t,0))else if (oW s t [] []).2.1≠0 then ([],(oW s t [] []).2)else if 4000<(oW s t [] []).1.length then ([],(4,(s.passes.length:Int)))else ((oW s t [] []).1,(0,0))
theorem Ns {s:bS} {x:Int} {t pc out:List Int} (h:tK s x=true):oW s (x::t) pc out=oW s t (pc++[x]) out:=by rw [oW,if_pos h]
theorem sL (s:bS) (out:List Int):jG s [] out=(out,(0,0)):=by rw [jG,if_pos rfl]
theorem BT {s:bS} {pc out x:List Int} {f:Int} (hp:pc ≠ []) (h:allI 0 s.passes pc=(x,(0,f))):jG s pc out=(out++x,(0,0)):=by
 rw [jG,if_neg hp,h,if_neg (fun h=>h rfl)]
theorem zq {s:bS} {pc out x:List Int} {e f:Int} (hp:pc ≠ []) (h:allI 0 s.passes pc=(x,(e,f))) (he:e≠0):jG s pc out=([],(e,f)):=by
 rw [jG,if_neg hp,h,if_pos he]
theorem GP {s:bS} {x:Int} {t pc out o2:List Int} (h:tK s x=false) (hf:jG s pc out=(o2,(0,0))):oW s (x::t) pc out=oW s t [] (o2++[x]):=by
 rw [oW,if_neg (by rw [h];decide),hf,if_neg (fun h=>h rfl)]
theorem Pk {s:bS} {t pc out:List Int} {e f:Int} (h:∀ x t',t=x::t'→tK s x=false) (hf:jG s pc out=([],(e,f))) (he:e≠0):oW s t pc out=([],(e,f)):=by
 cases t with
 | nil=>exact hf
 | cons x t=>rw [oW,if_neg (by rw [h x t rfl];decide),hf,if_pos he]
theorem Bu {s:bS} (h:(cP s).1=0) (ho:s.only? = true):aH s.only:=by
 unfold cP at h;by_cases hz:bA s.only=0;exact mB hz;rw [if_pos ⟨ho,hz⟩]at h;exact absurd h hz
theorem tJ (b o n c:Nat) (l:List Int) (w:World) (hn:n≤1000000) (hl:nK w w.heap.size (some ⟨b,o,none⟩) n l) :
    Calls Tryz.prog 38 #[.slice (some ⟨b,o,none⟩) n c] w fun e w'=>(∃ v,e=.returned v∧w'.ownsRow w.heap.size 21 1 v n (runeCells l))∧Below w.heap.size w w':=by
 obtain⟨i0,hi,z0,z1,z2⟩:=info_parts Tryz.info21;have hba:=(Below.refl w.heap.size w).alloc qql (.cells #[] 21);have Ad:=qqh hba;have TA:=qqh (sU w 21 1 w.heap.size w.heap.size rfl qql);have HL:=qqh (Rd.below hl hba);have hnil:∀ W:World,(binOp .eql 24 (.slice (some ⟨b,o,none⟩) n c) (.slice none 0 0)).run Tryz.prog W=.ok (.bool false) W:=fun _=>(by kernel_rfl);clear hba hl;go_enter Tryz.func38,Tryz.ntmps38;go_wp2_with (at_builtin;refine ai _ rfl (.tmp 5) (.tmp 6) 24 rfl w.heap.size 21 i0 _ 1 4 Tryz.underlying24 hi z0 z1 z2 rfl (by decide) _ _ _ rfl TA.out _ (some ⟨b,o,none⟩) n c (runeCells l) rfl HL.out (bh _) (by simp only [maxLen];omega) (by omega) (by simp) ?_);intro v1 w1 ak;have HO:=qqh (show w1.ownsRow w.heap.size 21 1 v1 n (runeCells l) by have:=ak.own;simpa using this);have HB:=qqh (Ad.out.trans (ak.below (by simp) TA.out));clear ak;go_wp2_with fail;go_ret;exact⟨⟨_,rfl,HO.out⟩,HB.out⟩
def EH (lo:Nat) (w':World) (o:List Int × (Int × Int)) (e:Ending):Prop :=
  ∃ (A:Option Addr) (n c:Nat),e=.returned (.tuple #[.slice A n c,.agg #[.int .i64 o.2.1,.int .i64 o.2.2]])∧cV w' (fun b=>lo≤b) 1 A n (runeCells o.1)
structure Bi (w:World) (cs:Array Value) (s8:Value) (out:List Int) (no:Nat) (wr:World):Prop where
  own:wr.ownsRow w.heap.size 21 1 s8 no (runeCells out)
  len:out.length=no
  scr:aj wr w.heap.size 47 cs
  fau:aj wr (w.heap.size+1) 38 #[.int .i64 0,.int .i64 0]
  below:Below w.heap.size w wr
theorem Bi.go {w wr w':World} {cs:Array Value} {s8:Value} {out:List Int} {no:Nat} (h:Bi w cs s8 out no wr) (hb:Below wr.heap.size wr w'):Bi w cs s8 out no w' :=
  ⟨dF h.own hb,h.len,aj.below h.scr hb h.scr.lt,aj.below h.fau hb h.fau.lt,h.below.trans (hb.mono h.below.size)⟩
theorem Bi.push {w wr w':World} {cs:Array Value} {s8 v:Value} {out E:List Int} {no m:Nat} (h:Bi w cs s8 out no wr) (hE:E.length=m) (ak:aP w.heap.size 21 1 s8 wr (no+m) (runeCells out++runeCells E) v w'):Bi w cs v (out++E) (no+m) w' :=
  ⟨by rw [jb];exact ak.own,by rw [List.length_append,h.len,hE],bW h.scr h.own (by decide) ak,bW h.fau h.own (by decide) ak,h.below.trans (ak.below h.below.size h.own)⟩
def Xb (w:World) (s:bS) (t:List Int) (cs:Array Value) (nt:Nat) (s8 s9:Value) (wr:World):Prop :=
  ∃ (at_ no:Nat) (out:List Int),at_≤nt∧s9=.int .i64 at_∧no≤4001*at_∧oW s t [] [] = oW s (t.drop at_) [] out∧Bi w cs s8 out no wr
def UJ (w1:World) (s:bS) (t out:List Int) (at_ nt:Nat) (i:Value) (wr:World):Prop :=
  ∃ j:Nat,at_+j≤nt∧i=.int .i64 (at_+j:Nat)∧oW s (t.drop at_) [] out=oW s (t.drop (at_+j)) ((t.drop at_).take j) out∧Below w1.heap.size w1 wr
theorem P8 {t:List Int} {at_ j:Nat} {x:Int} (h:t[at_+j]? = some x):(t.drop at_).take j++[x] =(t.drop at_).take (j+1):=by
 rw [List.take_add_one,List.getElem?_drop,h];rfl
theorem IT {t:List Int} {at_ j nt:Nat} (h:at_+j≤nt) (ht:t.length=nt):((t.drop at_).take j).length=j:=by rw [List.length_take,List.length_drop];omega
theorem Nx (X:Nat→Prop) (s:bS) (t:List Int) (A1 A2 At:Option Addr) (n1 c1 n2 c2 nt ct:Nat) (w:World) (hs:iS w X s A1 n1 A2 n2) (hnc:nt≤ct) (hnt:nt≤maxLen) (ht:nK w w.heap.size At nt t) :
    Calls Tryz.prog 15 #[.agg #[.bool s.only?,.slice A1 n1 c1,.slice A2 n2 c2],.slice At nt ct] w fun e w'=>EH w.heap.size w' (Rt s t) e∧Below w.heap.size w w':=by
 obtain⟨i0,hi,z0,z1,z2⟩:=info_parts Tryz.info21;have htl:=ht.len;have hb0:=((Below.refl w.heap.size w).alloc qql (.cells #[.bool s.only?,.slice A1 n1 c1,.slice A2 n2 c2] 47)).alloc (by simp) (.cells #[.int .i64 0,.int .i64 0] 38);have Hy:=qqh (aj.alloc (aj.new w 47 #[.bool s.only?,.slice A1 n1 c1,.slice A2 n2 c2]) (.cells #[.int .i64 0,.int .i64 0] 38));have MT:=qqh (show aj ((w.alloc (.cells #[.bool s.only?,.slice A1 n1 c1,.slice A2 n2 c2] 47)).alloc (.cells #[.int .i64 0,.int .i64 0] 38)) (w.heap.size+1) 38 #[.int .i64 0,.int .i64 0] by
  have:=aj.new (w.alloc (.cells #[.bool s.only?,.slice A1 n1 c1,.slice A2 n2 c2] 47)) 38 #[.int .i64 0,.int .i64 0];simpa using this)
 have ep:=qqh hb0;have Rr:=qqh (fun(W:World) (hb:Below w.heap.size w W)=>show iS W X s A1 n1 A2 n2 from hs.keep (ag.any hb));have zj:=qqh (fun(W:World) (hb:Below w.heap.size w W)=>show nK W W.heap.size At nt t from(Rd.below ht hb).more hb.size);have Yo:=qqh ht;have qB:=qqh (show s.passes.length=n2 from hs.pas.len);have hm2:=hs.m2;clear hb0 hs ht;go_enter Tryz.func15,Tryz.ntmps15;go_upto_region 1 with fail;generalize (w.alloc (.cells #[.bool s.only?,.slice A1 n1 c1,.slice A2 n2 c2] 47)).alloc (.cells #[.int .i64 0,.int .i64 0] 38)=W0 at *;have HW:=qqh (Dy X s A1 A2 n1 c1 n2 c2 W0 (Rr.out W0 ep.out));have x0:W0.cell? ⟨w.heap.size,0,none⟩=some (.bool s.only?):=Hy.out.cell 0;have x1:W0.cell? ⟨w.heap.size,1,none⟩=some (.slice A1 n1 c1):=Hy.out.cell 1;have x2:W0.cell? ⟨w.heap.size,2,none⟩=some (.slice A2 n2 c2):=Hy.out.cell 2;go_wp2_with fail;refine HW.out.mono ?_;rintro e w1 ⟨rfl,aT⟩;have EX:=qqh (aj.below Hy.out aT Hy.out.lt);have N1:=qqh (aj.below MT.out aT MT.out.lt);have bJ:=qqh (ep.out.trans (aT.mono ep.out.size));clear aT HW Hy MT ep x0 x1 x2;obtain⟨r1,r2,hR⟩:∃ r1 r2,cP s=(r1,r2):=⟨_,_,rfl⟩;have tH:=qqh (fun(h:r1=0) (ho:s.only? = true)=>Bu (s:=s) (by rw [hR];exact h) ho);have HGI:=qqh (show Rt s t=if r1≠0 then ([],(r1,r2))else if cm t≠0 then ([],(cm t,0))else if (oW s t [] []).2.1≠0 then ([],(oW s t [] []).2)else if 4000<(oW s t [] []).1.length then ([],(4,(s.passes.length:Int)))else ((oW s t [] []).1,(0,0)) by unfold Rt;rw [hR]);rw [hR];dsimp only;clear hR;have hw1:=N1.out.lt;have Oo:=qqh (EX.out.alloc (.cells #[.int .i64 r1,.int .i64 r2] 38))
 have NV:=qqh (N1.out.alloc (.cells #[.int .i64 r1,.int .i64 r2] 38));have O5:=qqh (aj.new w1 38 #[.int .i64 r1,.int .i64 r2]);have bL:=qqh (bJ.out.alloc bJ.out.size (.cells #[.int .i64 r1,.int .i64 r2] 38));go_upto_region 2 with fail;clear EX N1 bJ;generalize hW2:w1.alloc (.cells #[.int .i64 r1,.int .i64 r2] 38)=W2 at *;clear hW2;have z0':=O5.out.cell 0;have z1':=O5.out.cell 1;by_cases hz:r1=0
 ·subst hz;have Qc:=qqh (HGI.out.trans (if_neg (fun h=>h rfl)));have QJ:=qqh (mN At nt ct t W2 hnt (zj.out W2 bL.out));go_wp2_with fail;refine QJ.out.mono ?_;rintro e w3 ⟨rfl,bP⟩;have QZ:=qqh (aj.below Oo.out bP Oo.out.lt);have KW:=qqh (aj.below NV.out bP NV.out.lt);have bM:=qqh (bL.out.trans (bP.mono bL.out.size));clear bP QJ Oo NV bL O5 HGI z0' z1';obtain⟨tp,Kf⟩:∃ tp,cm t=tp:=⟨_,rfl⟩;have HTS:=qqh (fun(h:tp=0)=>tj (t:=t) (by rw [Kf];exact h));rw [Kf]at Qc ⊢;clear Kf;by_cases hz:tp=0
  ·subst hz;have OP:=qqh (Qc.out.trans (if_neg (fun h=>h rfl)));have UH:nt≤4000:=(by have:=HTS.out rfl;omega);generalize hcs:(#[.bool s.only?,.slice A1 n1 c1,.slice A2 n2 c2]:Array Value)=cs at *;have Oy:=qqh (show cs[0]? = some (.bool s.only?)∧cs[1]? = some (.slice A1 n1 c1)∧cs[2]? = some (.slice A2 n2 c2) by subst hcs;exact⟨rfl,rfl,rfl⟩);have WY:=qqh (show Bi w cs (.slice none 0 0) [] 0 w3 from⟨World.ownsRow_nil _ _ _ _,rfl,QZ.out,KW.out,bM.out⟩);clear Qc hcs QZ KW bM;go_wp2_with fail;go_loopw [8,9] (Xb w s t cs nt) (fun _ s9 _=>nt - (intOf s9).toNat);(case atStart=>exact⟨0,0,[],Nat.zero_le _,rfl,qql,rfl,WY.out⟩);clear WY;obtain⟨at_,no,out,lz,rfl,hno,aZ,hst⟩:=hrel;have fF:=qqh hst;have eU:=qqh aZ;obtain⟨Av,cv,rfl,_⟩:=aJ hst.own;have ko:=hst.below;have hzw:=ko.size;clear aZ;by_cases hlt:at_<nt
   ·obtain⟨tb,Og,rfl,htb,_⟩:=Yo.out.at hlt;have agw:decide ((at_:Int)<(nt:Int))=true:=decide_eq_true (by omega);clear hst;go_wp2_with fail;go_loopw [10] (UJ wr s t out at_ nt) (fun i _=>nt - (intOf i).toNat);(case atStart=>exact⟨0,by omega,rfl,by simp,qqb⟩);obtain⟨j,hj,rfl,hgi,hbi⟩:=hrel;have N7:=qqh (eU.out.trans hgi);have Yj:=qqh hgi;have Qz:=qqh (fF.out.go hbi);have S8:=qqh hbi;have s0:wr.cell? ⟨w.heap.size,0,none⟩=some (.bool s.only?):=(Qz.out.scr.cell 0).trans Oy.out.1;have s1:wr.cell? ⟨w.heap.size,1,none⟩=some (.slice A1 n1 c1):=(Qz.out.scr.cell 1).trans Oy.out.2.1;obtain⟨en,Yi⟩:∃ en,at_+j=en:=⟨_,rfl⟩;have Ik:=qqh (IT hj htl);rw [Yi]at hj N7 Yj ⊢;clear hgi hbi;by_cases hle:en<nt
    ·obtain⟨x,hx⟩:∃ z,t[en]? = some z:=⟨_,List.getElem?_eq_getElem (by omega)⟩;obtain⟨b',o',eA,_,cx⟩:=Yo.out.at hle;cases eA;rw [show t.getD en 0=x by simp [List.getD,hx]]at cx;have dx:wr.cell? ⟨tb,Og+en,none⟩=some (.int .i32 x):=(Qz.out.below.cell (p:=⟨tb,Og+en,none⟩) htb).trans cx;have abn:decide ((en:Int)<(nt:Int))=true:=decide_eq_true (by omega);have HDX:=qqh (cT hx);have HAS:=qqh (P8 (t:=t) (at_:=at_) (j:=j) (by rw [Yi];exact hx));rw [HDX.out]at N7 Yj;clear hx cx;cases ho:s.only?
     ·have N6:=qqh (show tK s x=true by unfold tK;rw [ho];rfl);rw [ho]at s0;have Vg:=qqh (Yj.out.trans (Ns N6.out));rw [HAS.out]at Vg;clear ho;go_upto_region 11 with fail;go_quiet (fail);go_wp2_with fail;exact⟨⟨j+1,by omega,by go_num,by rw [← Nat.add_assoc,Yi];exact Vg.out,below_drewN S8.out nq⟩,by simp [intOf];omega⟩
     have Y1:=qqh (fun(W:World) (hb:Below w.heap.size w W)=>rO A1 n1 c1 s.only x W (tH.out (by trivial) ho) (cV.of (Rr.out W hb).only));rw [ho]at s0;have N6:=qqh (show tK s x=aO s.only x by unfold tK;rw [ho];rfl);clear ho;go_upto_region 11 with fail;go_region_with (go_at_call 36;refine(Y1.out _ (aE Qz.out.below)).mono ?_;rintro e wh ⟨rfl,hbh⟩)
     all_goals
       have HBH:=qqh ((aE (Below.refl wr.heap.size wr)).trans hbh)
       clear hbh
       cases hh:aO s.only x
       · have HMF:=qqh (N6.out.trans hh)
         have En:=qqh (Qz.out.go HBH.out)
         clear hh
         by_cases hj0:j=0
         · have hgt:decide ((at_:Int)<(en:Int))=false:=decide_eq_false (by omega)
           have Ka:=(Below.refl wh.heap.size wh).alloc qql (.cells #[.int .i32 x] 21)
           have iU:=qqh (En.out.go Ka)
           have OB:=qqh (Rd.new wh 21 1 1 [.int .i32 x] rfl)
           have dx2:wh.cell? ⟨tb,Og+en,none⟩=some (.int .i32 x):=(En.out.below.cell (p:=⟨tb,Og+en,none⟩) htb).trans (((Qz.out.below.cell (p:=⟨tb,Og+en,none⟩) htb).symm).trans dx)
           clear Ka
           go_wp2_with (at_builtin;refine ai _ rfl (.tmp 73) (.tmp 78) 24 rfl w.heap.size 21 i0 _ 1 4 Tryz.underlying24 hi z0 z1 z2 rfl (by decide) _ (no) _ rfl iU.out.own _ (some ⟨wh.heap.size,0,none⟩) 1 1 (runeCells [x]) rfl OB.out (bh _) (by simp only [maxLen];omega) (by omega) iU.out.below.size ?_)
           intro vf wf ak
           have jS:=qqh (iU.out.push (E:=[x]) rfl ak)
           obtain⟨Af,cf,rfl,_⟩:=aJ jS.out.own
           have uE:=qqh (show oW s t [] [] = oW s (t.drop (en+1)) [] (out++[x]) from N7.out.trans (GP HMF.out (by rw [show(t.drop at_).take j = [] by rw [hj0];rfl];exact sL s out)))
           clear ak iU OB
           go_wp2_with fail
           exact⟨⟨en+1,no+1,out++[x],by omega,by go_num,by omega,uE.out,jS.out⟩,by simp [intOf];omega⟩
         · have Sq:0<j:=by omega
           have hne:¬ ct=at_:=by omega
           have aa6:en - at_=j:=by omega
           have xm:=qqh (cV.G9 (X:=fun _=>True) (zj.out _ En.out.below) qql (fun _ _=>trivial))
           have TK:=Df (C' xm.out (show at_≤nt by omega)) (show j≤nt - at_ by omega)
           rw [nR,nP]at TK
           have xX:=qqh (tJ tb (Og+at_) j (ct - at_) ((t.drop at_).take j) _ (by omega) TK.of)
           have hgt:decide ((at_:Int)<(en:Int))=true:=decide_eq_true (by omega)
           clear TK xm
           go_wp2_with fail
           refine xX.out.mono ?_
           rintro e wc ⟨⟨v,rfl,hown⟩,hbc⟩
           obtain⟨Ac,cc,rfl,_⟩:=aJ hown
           have Fw:=qqh (En.out.go hbc)
           have rE:=qqh (zS X (fun b=>w.heap.size≤b) s w.heap.size A1 A2 Ac n1 n2 c2 j cc ((t.drop at_).take j) wc (Rr.out wc Fw.out.below) ((Fw.out.scr.cell 2).trans Oy.out.2.2) Fw.out.scr.lt (by rw [Ik.out];omega) (cV.cC hown (fun b hb=>Nat.le_trans En.out.below.size (bk hown hb).1)))
           have LZ:=qqh (xw s.passes 0 ((t.drop at_).take j) (by rw [Ik.out];omega))
           clear hown hbc xX
           go_wp2_with fail
           refine rE.out.mono ?_
           rintro e wd ⟨⟨A4,n4,c4,rfl,Ms⟩,hb4⟩
           have ZE:=Fw.out.below.size
           obtain⟨y,f1,f2,hall⟩:∃ y f1 f2,allI 0 s.passes ((t.drop at_).take j)=(y,(f1,f2)):=⟨_,_,_,rfl⟩
           have Ty:=qqh hall
           rw [hall]at Ms LZ ⊢
           dsimp only at Ms LZ ⊢
           have hba:=(Below.refl wd.heap.size wd).alloc qql (.cells #[.int .i64 f1,.int .i64 f2] 38)
           have xR:=qqh ((Fw.out.go hb4).go hba)
           have CP:=qqh (Rd.below Ms.of hba)
           have VR:=qqh (show y.length=n4 by have:=Ms.1;rw [runeCells_length]at this;omega)
           have FQ:=qqh (aj.new wd 38 #[.int .i64 f1,.int .i64 f2])
           have WR:w.heap.size+1<wd.heap.size:=Nat.lt_of_lt_of_le Fw.out.fau.lt hb4.size
           have C7:=qqh (show(t.drop at_).take j ≠ [] by intro e;have:=Ik.out;rw [e]at this;simp at this;omega)
           clear Ms hba hb4 rE hall
           go_upto_region 15 with fail
           generalize hWD:wd.alloc (.cells #[.int .i64 f1,.int .i64 f2] 38)=WD at *
           have abX:wd.heap.size<WD.heap.size:=FQ.out.lt
           clear hWD
           have q0:=FQ.out.cell 0
           have q1:=FQ.out.cell 1
           by_cases hf:f1=0
           · subst hf
             have KS:n4≤4000:=by rw [← VR.out];exact LZ.out
             have oP:=qqh (BT C7.out Ty.out (out:=out))
             go_wp2_with (at_builtin;refine ai _ rfl (.tmp 66) (.tmp 67) 24 rfl w.heap.size 21 i0 _ 1 4 Tryz.underlying24 hi z0 z1 z2 rfl (by decide) _ no _ rfl xR.out.own _ A4 n4 c4 (runeCells y) rfl CP.out (bh _) (by simp only [maxLen];omega) (by omega) xR.out.below.size ?_)
             intro ve we ak
             have uB:=qqh (xR.out.push VR.out ak)
             obtain⟨Ae,ce,rfl,_⟩:=aJ uB.out.own
             clear ak xR Fw En Ty C7 q0 q1 FQ
             have Ka:=(Below.refl we.heap.size we).alloc qql (.cells #[.int .i32 x] 21)
             have iU:=qqh (uB.out.go Ka)
             have OB:=qqh (Rd.new we 21 1 1 [.int .i32 x] rfl)
             have dx2:we.cell? ⟨tb,Og+en,none⟩=some (.int .i32 x):=(uB.out.below.cell (p:=⟨tb,Og+en,none⟩) htb).trans (((Qz.out.below.cell (p:=⟨tb,Og+en,none⟩) htb).symm).trans dx)
             clear Ka
             go_wp2_with (at_builtin;refine ai _ rfl (.tmp 73) (.tmp 78) 24 rfl w.heap.size 21 i0 _ 1 4 Tryz.underlying24 hi z0 z1 z2 rfl (by decide) _ ((no+n4)) _ rfl iU.out.own _ (some ⟨we.heap.size,0,none⟩) 1 1 (runeCells [x]) rfl OB.out (bh _) (by simp only [maxLen];omega) (by omega) iU.out.below.size ?_)
             intro vf wf ak
             have jS:=qqh (iU.out.push (E:=[x]) rfl ak)
             obtain⟨Af,cf,rfl,_⟩:=aJ jS.out.own
             have uE:=qqh (show oW s t [] [] = oW s (t.drop (en+1)) [] ((out++y)++[x]) from N7.out.trans (GP HMF.out oP.out))
             clear ak iU OB
             go_wp2_with fail
             exact⟨⟨en+1,(no+n4)+1,(out++y)++[x],by omega,by go_num,by omega,uE.out,jS.out⟩,by simp [intOf];omega⟩
           · have oP:=qqh (zq C7.out Ty.out hf (out:=out))
             have HG:=qqh (show Rt s t=([],(f1,f2)) by rw [OP.out,N7.out,Pk (s:=s) (t:=x::t.drop (en+1)) (fun x' t' e=>by cases e;exact HMF.out) oP.out hf,if_pos hf])
             have y0:=xR.out.fau.cell 0
             have y1:=xR.out.fau.cell 1
             have g0:=xR.out.fau.frozen 0
             have g1:=xR.out.fau.frozen 1
             have LF:¬ w.heap.size+1=wd.heap.size:=by omega
             have MK:¬ wd.heap.size=w.heap.size+1:=by omega
             go_upto_region 16 with fail
             go_region
             all_goals
               go_wp2_with fail
               rw [HG.out]
               exact bodyPost_ret (v:=.tuple #[.slice none 0 0,.agg #[.int .i64 f1,.int .i64 f2]]) (by simp [results,Tryz.results15,go_sem,y0,y1]) rfl ⟨⟨none,0,0,rfl,⟨rfl,fun h=>absurd h (Nat.lt_irrefl 0)⟩⟩,((xR.out.below.setCell (by simp) _).setCell (by simp) _).drew⟩
       · have Vg:=qqh (Yj.out.trans (Ns (N6.out.trans hh)))
         rw [HAS.out]at Vg
         clear hh
         go_wp2_with fail
         exact⟨⟨j+1,by omega,by go_num,by rw [← Nat.add_assoc,Yi];exact Vg.out,S8.out.trans (HBH.out.mono S8.out.size)⟩,by simp [intOf];omega⟩
    obtain rfl:en=nt:=(by omega);have abn:decide ((en:Int)<(en:Int))=false:=decide_eq_false (by omega);go_upto_region 11 with fail;go_quiet (fail);have En:=qqh (show Bi w cs (.slice Av no cv) out no (wr.drewN nq) from Qz.out.go (below_drewN qqb nq));have Sq:0<j:=(by omega);generalize wr.drewN nq=wh at *;have hne:¬ ct=at_:=(by omega);have aa6:en - at_=j:=(by omega);have xm:=qqh (cV.G9 (X:=fun _=>True) (zj.out _ En.out.below) qql (fun _ _=>trivial));have TK:=Df (C' xm.out (show at_≤en by omega)) (show j≤en - at_ by omega);rw [nR,nP]at TK;have xX:=qqh (tJ tb (Og+at_) j (ct - at_) ((t.drop at_).take j) _ (by omega) TK.of);have hgt:decide ((at_:Int)<(en:Int))=true:=decide_eq_true (by omega);clear TK xm;go_wp2_with fail;refine xX.out.mono ?_;rintro e wc ⟨⟨v,rfl,hown⟩,hbc⟩;obtain⟨Ac,cc,rfl,_⟩:=aJ hown;have Fw:=qqh (En.out.go hbc);have rE:=qqh (zS X (fun b=>w.heap.size≤b) s w.heap.size A1 A2 Ac n1 n2 c2 j cc ((t.drop at_).take j) wc (Rr.out wc Fw.out.below) ((Fw.out.scr.cell 2).trans Oy.out.2.2) Fw.out.scr.lt (by rw [Ik.out];omega) (cV.cC hown (fun b hb=>Nat.le_trans En.out.below.size (bk hown hb).1)));have LZ:=qqh (xw s.passes 0 ((t.drop at_).take j) (by rw [Ik.out];omega));clear hown hbc xX;go_wp2_with fail;refine rE.out.mono ?_;rintro e wd ⟨⟨A4,n4,c4,rfl,Ms⟩,hb4⟩;have ZE:=Fw.out.below.size;obtain⟨y,f1,f2,hall⟩:∃ y f1 f2,allI 0 s.passes ((t.drop at_).take j)=(y,(f1,f2)):=⟨_,_,_,rfl⟩;have Ty:=qqh hall;rw [hall]at Ms LZ ⊢;dsimp only at Ms LZ ⊢;have hba:=(Below.refl wd.heap.size wd).alloc qql (.cells #[.int .i64 f1,.int .i64 f2] 38);have xR:=qqh ((Fw.out.go hb4).go hba);have CP:=qqh (Rd.below Ms.of hba)
    have VR:=qqh (show y.length=n4 by have:=Ms.1;rw [runeCells_length]at this;omega);have FQ:=qqh (aj.new wd 38 #[.int .i64 f1,.int .i64 f2]);have WR:w.heap.size+1<wd.heap.size:=Nat.lt_of_lt_of_le Fw.out.fau.lt hb4.size;have C7:=qqh (show(t.drop at_).take j ≠ [] by intro e;have:=Ik.out;rw [e]at this;simp at this;omega);clear Ms hba hb4 rE hall;go_upto_region 15 with fail;generalize hWD:wd.alloc (.cells #[.int .i64 f1,.int .i64 f2] 38)=WD at *;have abX:wd.heap.size<WD.heap.size:=FQ.out.lt;clear hWD;have q0:=FQ.out.cell 0;have q1:=FQ.out.cell 1;by_cases hf:f1=0
    ·subst hf;have KS:n4≤4000:=(by rw [← VR.out];exact LZ.out);have oP:=qqh (BT C7.out Ty.out (out:=out));go_wp2_with (at_builtin;refine ai _ rfl (.tmp 66) (.tmp 67) 24 rfl w.heap.size 21 i0 _ 1 4 Tryz.underlying24 hi z0 z1 z2 rfl (by decide) _ no _ rfl xR.out.own _ A4 n4 c4 (runeCells y) rfl CP.out (bh _) (by simp only [maxLen];omega) (by omega) xR.out.below.size ?_);intro ve we ak;have uB:=qqh (xR.out.push VR.out ak);obtain⟨Ae,ce,rfl,_⟩:=aJ uB.out.own;clear ak xR Fw En Ty C7 q0 q1 FQ;have Qq:oW s t [] [] = oW s (t.drop en) [] (out++y):=by
      rw [N7.out,List.drop_of_length_le (by omega),oW,oW,oP.out,sL]
     have uE:=qqh Qq;clear Qq;go_wp2_with fail;exact⟨⟨en,no+n4,out++y,qql,rfl,by omega,uE.out,uB.out⟩,by simp [intOf];omega⟩
    have oP:=qqh (zq C7.out Ty.out hf (out:=out));have HG:=qqh (show Rt s t=([],(f1,f2)) by rw [OP.out,N7.out,List.drop_of_length_le (by omega),oW,oP.out,if_pos hf]);have y0:=xR.out.fau.cell 0;have y1:=xR.out.fau.cell 1;have g0:=xR.out.fau.frozen 0;have g1:=xR.out.fau.frozen 1;have LF:¬ w.heap.size+1=wd.heap.size:=(by omega);have MK:¬ wd.heap.size=w.heap.size+1:=(by omega);go_upto_region 16 with fail;go_region
    all_goals
      go_wp2_with fail
      rw [HG.out]
      exact bodyPost_ret (v:=.tuple #[.slice none 0 0,.agg #[.int .i64 f1,.int .i64 f2]]) (by simp [results,Tryz.results15,go_sem,y0,y1]) rfl ⟨⟨none,0,0,rfl,⟨rfl,fun h=>absurd h (Nat.lt_irrefl 0)⟩⟩,((xR.out.below.setCell (by simp) _).setCell (by simp) _).drew⟩
   obtain rfl:at_=nt:=(by omega);have HGF:=qqh (show oW s t [] [] =(out,(0,0)) by rw [eU.out,List.drop_of_length_le (by omega),oW,sL]);have hlen:=fF.out.len;by_cases h4:4000<no
   ·have HG:=qqh (show Rt s t=([],(4,(n2:Int))) by rw [OP.out,HGF.out,if_neg (fun h=>h rfl),if_pos (by rw [hlen];exact h4),qB.out]);have d2:wr.cell? ⟨w.heap.size,2,none⟩=some (.slice A2 n2 c2):=(hst.scr.cell 2).trans Oy.out.2.2;have y0:=hst.fau.cell 0;have y1:=hst.fau.cell 1;have g0:=hst.fau.frozen 0;have g1:=hst.fau.frozen 1;have hne:¬ w.heap.size=w.heap.size+1:=(by omega);clear hst;go_upto_region 23 with fail;go_region
    all_goals
      go_wp2_with fail
      rw [HG.out]
      exact bodyPost_ret (v:=.tuple #[.slice none 0 0,.agg #[.int .i64 4,.int .i64 n2]]) (by simp [results,Tryz.results15,go_sem,y0,y1]) rfl ⟨⟨none,0,0,rfl,⟨rfl,fun h=>absurd h (Nat.lt_irrefl 0)⟩⟩,((fF.out.below.setCell (by simp) _).setCell (by simp) _).drew⟩
   have HG:=qqh (show Rt s t=(out,(0,0)) by rw [OP.out,HGF.out,if_neg (fun h=>h rfl),if_neg (by rw [hlen];exact h4)]);have y0:=hst.fau.cell 0;have y1:=hst.fau.cell 1;have g0:=hst.fau.frozen 0;have g1:=hst.fau.frozen 1;have q1:=gn (i:=0) (u:=.int .i64 0) hst.own hst.fau (by decide);have q2:=gn (i:=1) (u:=.int .i64 0) q1 (hst.fau.put 0 _) (by decide);have oX:=qqh (cV.cC (X:=fun b=>w.heap.size≤b) q2 (fun b hb=>(bk q2 hb).1));clear hst q1 q2;go_wp2_with fail;rw [HG.out];exact bodyPost_ret (v:=.tuple #[.slice Av no cv,.agg #[.int .i64 0,.int .i64 0]]) (by simp [results,Tryz.results15,go_sem,y0,y1]) rfl ⟨⟨Av,no,cv,rfl,oX.out⟩,(fF.out.below.setCell (by simp) _).setCell (by simp) _⟩
  have HG:=qqh (Qc.out.trans (if_pos hz));have y0:=KW.out.cell 0;have y1:=KW.out.cell 1;have g0:=KW.out.frozen 0;have g1:=KW.out.frozen 1;go_wp2_with fail;rw [HG.out];exact bodyPost_ret (v:=.tuple #[.slice none 0 0,.agg #[.int .i64 tp,.int .i64 0]]) (by simp [results,Tryz.results15,go_sem,y0,y1]) rfl ⟨⟨none,0,0,rfl,⟨rfl,fun h=>absurd h (Nat.lt_irrefl 0)⟩⟩,(bM.out.setCell (by simp) _).setCell (by simp) _⟩
 have HG:=qqh (HGI.out.trans (if_pos hz));have y0:=NV.out.cell 0;have y1:=NV.out.cell 1;have g0:=NV.out.frozen 0;have g1:=NV.out.frozen 1;have LF:¬ w.heap.size+1=w1.heap.size:=(by omega);have MK:¬ w1.heap.size=w.heap.size+1:=(by omega);go_upto_region 3 with fail;go_region
 all_goals
   go_wp2_with fail
   rw [HG.out]
   exact bodyPost_ret (v:=.tuple #[.slice none 0 0,.agg #[.int .i64 r1,.int .i64 r2]]) (by simp [results,Tryz.results15,go_sem,y0,y1]) rfl ⟨⟨none,0,0,rfl,⟨rfl,fun h=>absurd h (Nat.lt_irrefl 0)⟩⟩,((bL.out.setCell (by simp) _).setCell (by simp) _).drew⟩
end Go.Proofs.YtblinekbpcdbfaaGreatDoor
