import Derived.Test.YtamkjeipdjbemaaGreatDoorZp35
import Derived.Deep.RegionWith
set_option maxHeartbeats 6400000
set_option maxRecDepth 100000
namespace Go.Proofs.YtamkjeipdjbemaaGreatDoor
open Go.RowKit
theorem pg {w:World} {g:Nat} {t:TypeId} {cs:Array Value} (h:an w g t cs):an w.drew g t cs:=h
def isNone (s:ByteArray):Bool:=s.toList == []
def dr (p:cz):Int:=if isNone p.name=true then (bZ p.rules).1 else if gC p.name=false then 7 else if 0<p.rules.length then 8 else 0
def cM:Nat→List cz→Int × Int
  | _,[]=>(0,0)
  | k,p::l=>if dr p≠0 then (dr p,(k:Int))else cM (k+1) l
def bu (s:aR):Int × Int :=
  if s.only? = true∧bD s.only≠0 then (bD s.only,0)else if 60<s.passes.length then (5,0)else cM 0 s.passes
structure fU (w:World) (X:Nat→Prop) (s:aR) (A1:Option Addr) (n1:Nat) (A2:Option Addr) (n2:Nat):Prop where
  only:cL w X 2 A1 n1 (au s.only)
  pas:bS (cX w X) w X 2 A2 n2 s.passes
  m1:n1≤maxLen
  m2:n2≤maxLen
theorem fU.keep {w w':World} {X X':Nat→Prop} {s:aR} {A1 A2:Option Addr} {n1 n2:Nat} (hk:aa w X w' X') (h:fU w X s A1 n1 A2 n2):fU w' X' s A1 n1 A2 n2 :=
  ⟨h.only.keep hk,h.pas.keep hk (fun _ _=>cX.keep hk),h.m1,h.m2⟩
theorem oY {w:World} {X:Nat→Prop} {A:Option Addr} {n:Nat} {l:List cz} (h:bS (cX w X) w X 2 A n l) {k:Nat} {p:cz} (hk:l[k]? = some p) :
    ∃ (b off:Nat) (A':Option Addr) (n' c':Nat),A=some ⟨b,off,none⟩∧X b∧b<w.heap.size∧w.cell? ⟨b,off+k*2,none⟩=some (.string p.name)∧w.cell? ⟨b,off+k*2+1,none⟩=some (.slice A' n' c')∧bS (bg w X) w X 7 A' n' p.rules∧n'≤maxLen:=by
 obtain⟨b,off,cs,e,hx,hb,⟨u,rfl,A',n',c',rfl,h1,h2⟩,_,hc⟩:=h.at hk;have c0:=hc 0 _ rfl;have c1:=hc 1 _ rfl;rw [Nat.add_zero]at c0;exact⟨b,off,A',n',c',e,hx,hb,c0,c1,h1,h2⟩
theorem lN (a b:Int) (w:World):(Instr.field 34 (.agg #[.int .i64 a,.int .i64 b]) 0).run Tryz.prog w=.ok (.int .i64 a) w:=by kernel_rfl
def Ii (w:World) (s:aR) (n:Nat) (i:Value) (wr:World):Prop :=
  ∃ k:Nat,k≤n∧i=.int .i64 k∧cM 0 s.passes=cM k (s.passes.drop k)∧an wr (w.heap.size+1) 34 #[.int .i64 0,.int .i64 0]∧Below w.heap.size w wr
theorem Ei (X:Nat→Prop) (s:aR) (A1 A2:Option Addr) (n1 c1 n2 c2:Nat) (w:World) (hs:fU w X s A1 n1 A2 n2) :
    Calls Tryz.prog 16 #[.agg #[.bool s.only?,.slice A1 n1 c1,.slice A2 n2 c2]] w fun e w'=>e=.returned (.agg #[.int .i64 (bu s).1,.int .i64 (bu s).2])∧Below w.heap.size w w':=by
 have Tr:=hs.m1;have hm2:=hs.m2;have aM:=qqh (show s.passes.length=n2 from hs.pas.len);have HS:=qqh hs;have HX:=qqh (an.alloc (an.new w 29 #[.bool s.only?,.slice A1 n1 c1,.slice A2 n2 c2]) (.cells #[.int .i64 0,.int .i64 0] 34));have HF:=qqh (show an ((w.alloc (.cells #[.bool s.only?,.slice A1 n1 c1,.slice A2 n2 c2] 29)).alloc (.cells #[.int .i64 0,.int .i64 0] 34)) (w.heap.size+1) 34 #[.int .i64 0,.int .i64 0] by
  have:=an.new (w.alloc (.cells #[.bool s.only?,.slice A1 n1 c1,.slice A2 n2 c2] 29)) 34 #[.int .i64 0,.int .i64 0];simpa using this)
 have HB:=qqh (((Below.refl w.heap.size w).alloc qql (.cells #[.bool s.only?,.slice A1 n1 c1,.slice A2 n2 c2] 29)).alloc (by simp) (.cells #[.int .i64 0,.int .i64 0] 34));simp only [maxLen]at Tr hm2;clear hs;go_enter Tryz.func16,Tryz.ntmps16;go_upto_region 1 with fail;generalize (w.alloc (.cells #[.bool s.only?,.slice A1 n1 c1,.slice A2 n2 c2] 29)).alloc (.cells #[.int .i64 0,.int .i64 0] 34)=W0 at *;have x0:W0.cell? ⟨w.heap.size,0,none⟩=some (.bool s.only?):=HX.out.cell 0;cases ho:s.only?
 ·have Cn:=qqh (show bu s=if 60<s.passes.length then (5,0)else cM 0 s.passes by unfold bu;rw [if_neg (by rw [ho];intro h;cases h.1)]);rw [ho]at x0;clear ho;have x2:W0.cell? ⟨w.heap.size,2,none⟩=some (.slice A2 n2 c2):=HX.out.cell 2;have y0:=HF.out.cell 0;have y1:=HF.out.cell 1;have g0:=HF.out.frozen 0;have g1:=HF.out.frozen 1;by_cases uo:60<n2
  ·have HG:=qqh (show bu s=(5,0) by rw [Cn.out,if_pos (by rw [aM.out];exact uo)]);have hgt:decide ((60:Int)<(n2:Int))=true:=decide_eq_true (by omega);go_wp2_with fail;rw [HG.out];exact bodyPost_ret (v:=.agg #[.int .i64 5,.int .i64 0]) (by simp [results,Tryz.results16,go_sem,y0,y1]) rfl ⟨rfl,(HB.out.setCell (by simp) _).setCell (by simp) _⟩
  have wN:=qqh (show bu s=cM 0 s.passes by rw [Cn.out,if_neg (by rw [aM.out];exact uo)]);have hgt:decide ((60:Int)<(n2:Int))=false:=decide_eq_false (by omega);clear Cn y0 y1 g0 g1;go_wp2_with fail;go_loopw [24] (Ii w s n2) (fun i _=>n2 - (intOf i).toNat);(case atStart=>exact⟨0,Nat.zero_le _,rfl,rfl,HF.out,HB.out⟩);obtain⟨k,hk,rfl,aN,hf,hb⟩:=hrel;have hz:=hb.size;by_cases hlt:k<n2
  ·obtain⟨p,hp⟩:∃ z,s.passes[k]? = some z:=⟨_,List.getElem?_eq_getElem (by rw [aM.out];exact hlt)⟩;obtain⟨b,off,A',n',c',rfl,_,cK,e0,e1,hr,hn'⟩:=oY (HS.out.pas.keep (aa.any hb) (fun _ _=>cX.keep (aa.any hb))) hp;rw [bR hp,cM]at aN;have dh:=qqh aN;have hba:=(Below.refl wr.heap.size wr).alloc qql (.cells #[.string p.name,.slice A' n' c'] 63);have HR:=qqh (hr.keep (aa.any hba) (fun _ _=>bg.keep (aa.any hba)));have eC:=qqh (hf.alloc (.cells #[.string p.name,.slice A' n' c'] 63));have bf:=qqh (hb.trans (hba.mono hz));have HP:=qqh (an.new wr 63 #[.string p.name,.slice A' n' c']);have j6:=qqh (show p.rules.length=n' from hr.len);clear aN hr hf hb hba hp;go_upto_region 10 with fail;generalize hW:wr.alloc (.cells #[.string p.name,.slice A' n' c'] 63)=W at *;have Rr:wr.heap.size<W.heap.size:=HP.out.lt;clear hW e0 e1;have p0:W.cell? ⟨wr.heap.size,0,none⟩=some (.string p.name):=HP.out.cell 0;have p1:W.cell? ⟨wr.heap.size,1,none⟩=some (.slice A' n' c'):=HP.out.cell 1;have y0:=eC.out.cell 0;have y1:=eC.out.cell 1;have g0:=eC.out.frozen 0;have g1:=eC.out.frozen 1;cases en:isNone p.name
   ·have OJ:(p.name.toList == [])=false:=en;have vg:=qqh (show dr p=if gC p.name=false then 7 else if 0<p.rules.length then 8 else 0 by unfold dr;rw [en];rfl);clear en;obtain⟨pb,hpb⟩:∃ pb,gC p.name=pb:=⟨_,rfl⟩;have Mb:=qqh hpb;rw [hpb]at vg;clear hpb;have bN:=qqh (fun(q:Nat)=>below_drewN (bf.out.alloc bf.out.size (.cells #[.string fl,.string jy,.string gB,.string fc] 9)) q);have dV:=qqh (eC.out.alloc (.cells #[.string fl,.string jy,.string gB,.string fc] 9));have i7:=qqh (HP.out.alloc (.cells #[.string fl,.string jy,.string gB,.string fc] 9));go_upto_region 13 with fail;go_region_with (first | (go_at_call 42;refine(jj _).mono ?_;rintro e w' ⟨rfl,rfl⟩) | (go_at_call 41;refine(rM _ p.name _ Mb.out _ (pg (an.new _ _ _))).mono ?_;rintro e w' ⟨rfl,rfl⟩))
    all_goals
      have y0:=dV.out.cell 0
      have y1:=dV.out.cell 1
      have g0:=dV.out.frozen 0
      have g1:=dV.out.frozen 1
      have p0:=i7.out.cell 0
      have p1:=i7.out.cell 1
      cases pb
      · have HG:=qqh (show bu s=(7,(k:Int)) by rw [wN.out,dh.out,(show dr p=7 by rw [vg.out,if_pos rfl]),if_pos (by decide)])
        go_wp2_with fail
        rw [HG.out]
        exact bodyPost_ret (v:=.agg #[.int .i64 7,.int .i64 k]) (by simp [results,Tryz.results16,go_sem,y0,y1]) rfl ⟨rfl,((bN.out _).setCell (by simp) _).setCell (by simp) _⟩
      · by_cases h0:0<n'
        · have HG:=qqh (show bu s=(8,(k:Int)) by rw [wN.out,dh.out,(show dr p=8 by rw [vg.out,if_neg (by decide),if_pos (by rw [j6.out];exact h0)]),if_pos (by decide)])
          go_wp2_with fail
          rw [HG.out]
          exact bodyPost_ret (v:=.agg #[.int .i64 8,.int .i64 k]) (by simp [results,Tryz.results16,go_sem,y0,y1]) rfl ⟨rfl,((bN.out _).setCell (by simp) _).setCell (by simp) _⟩
        · have HZ:=qqh (show dr p=0 by rw [vg.out,if_neg (by decide),if_neg (by rw [j6.out];exact h0)])
          have HG:=qqh (dh.out.trans (if_neg (fun h=>h HZ.out)))
          obtain rfl:n'=0:=by omega
          go_wp2_with fail
          exact⟨⟨k+1,by omega,by go_num,HG.out,pg dV.out,bN.out _⟩,by simp [intOf];omega⟩
   have OJ:(p.name.toList == [])=true:=en;have HW:=qqh (show dr p=(bZ p.rules).1 by unfold dr;rw [en];rfl);clear en;obtain⟨r1,r2,hR⟩:∃ r1 r2,bZ p.rules=(r1,r2):=⟨_,_,rfl⟩;have tL:=qqh (pI X p.rules A' n' c' W hn' HR.out);rw [hR]at tL HW;dsimp only at tL HW;clear hR;have ED:=fun(W:World)=>lN r1 r2 W;go_wp2_with fail;refine tL.out.mono ?_;rintro e w3 ⟨rfl,bM⟩;have dV:=qqh (an.below eC.out bM eC.out.lt);have bN:=qqh (bf.out.trans (bM.mono bf.out.size));have y0:=dV.out.cell 0;have y1:=dV.out.cell 1;have g0:=dV.out.frozen 0;have g1:=dV.out.frozen 1;clear bM p0 p1;by_cases i6:r1=0
   ·subst i6;have HZ:=qqh (show dr p=0 from HW.out);have HG:=qqh (dh.out.trans (if_neg (fun h=>h HZ.out)));go_wp2_with fail;exact⟨⟨k+1,by omega,by go_num,HG.out,dV.out,bN.out⟩,by simp [intOf];omega⟩
   have HG:=qqh (show bu s=(r1,(k:Int)) by rw [wN.out,dh.out,HW.out,if_pos i6]);go_wp2_with fail;rw [HG.out];exact bodyPost_ret (v:=.agg #[.int .i64 r1,.int .i64 k]) (by simp [results,Tryz.results16,go_sem,y0,y1]) rfl ⟨rfl,(bN.out.setCell (by simp) _).setCell (by simp) _⟩
  obtain rfl:k=n2:=(by omega);rw [List.drop_of_length_le (by rw [aM.out];exact qql),cM]at aN;have HG:=qqh (wN.out.trans aN);have y0:=hf.cell 0;have y1:=hf.cell 1;have g0:=hf.frozen 0;have g1:=hf.frozen 1;clear aN hf;go_wp2_with fail;rw [HG.out];exact bodyPost_ret (v:=.agg #[.int .i64 0,.int .i64 0]) (by simp [results,Tryz.results16,go_sem,y0,y1]) rfl ⟨rfl,(hb.setCell (by simp) _).setCell (by simp) _⟩
 have x1:W0.cell? ⟨w.heap.size,1,none⟩=some (.slice A1 n1 c1):=HX.out.cell 1;have MG:=qqh (jx A1 n1 c1 s.only W0 (by omega) (cL.of (HS.out.only.keep (aa.any HB.out))));rw [ho]at x0;go_wp2_with fail;refine MG.out.mono ?_;rintro e w1 ⟨rfl,aP⟩;have HX:=qqh (an.below HX.out aP HX.out.lt);have HF:=qqh (an.below HF.out aP HF.out.lt);have HB:=qqh (HB.out.trans (aP.mono HB.out.size));clear aP MG x0 x1;by_cases hz:bD s.only=0
 ·have Cn:=qqh (show bu s=if 60<s.passes.length then (5,0)else cM 0 s.passes by unfold bu;rw [if_neg (fun h=>h.2 hz)]);rw [hz];clear hz ho;have x2:w1.cell? ⟨w.heap.size,2,none⟩=some (.slice A2 n2 c2):=HX.out.cell 2;have y0:=HF.out.cell 0;have y1:=HF.out.cell 1;have g0:=HF.out.frozen 0;have g1:=HF.out.frozen 1;by_cases uo:60<n2
  ·have HG:=qqh (show bu s=(5,0) by rw [Cn.out,if_pos (by rw [aM.out];exact uo)]);have hgt:decide ((60:Int)<(n2:Int))=true:=decide_eq_true (by omega);go_wp2_with fail;rw [HG.out];exact bodyPost_ret (v:=.agg #[.int .i64 5,.int .i64 0]) (by simp [results,Tryz.results16,go_sem,y0,y1]) rfl ⟨rfl,(HB.out.setCell (by simp) _).setCell (by simp) _⟩
  have wN:=qqh (show bu s=cM 0 s.passes by rw [Cn.out,if_neg (by rw [aM.out];exact uo)]);have hgt:decide ((60:Int)<(n2:Int))=false:=decide_eq_false (by omega);clear Cn y0 y1 g0 g1;go_wp2_with fail;go_loopw [24] (Ii w s n2) (fun i _=>n2 - (intOf i).toNat);(case atStart=>exact⟨0,Nat.zero_le _,rfl,rfl,HF.out,HB.out⟩);obtain⟨k,hk,rfl,aN,hf,hb⟩:=hrel;have hz:=hb.size;by_cases hlt:k<n2
  ·obtain⟨p,hp⟩:∃ z,s.passes[k]? = some z:=⟨_,List.getElem?_eq_getElem (by rw [aM.out];exact hlt)⟩;obtain⟨b,off,A',n',c',rfl,_,cK,e0,e1,hr,hn'⟩:=oY (HS.out.pas.keep (aa.any hb) (fun _ _=>cX.keep (aa.any hb))) hp;rw [bR hp,cM]at aN;have dh:=qqh aN;have hba:=(Below.refl wr.heap.size wr).alloc qql (.cells #[.string p.name,.slice A' n' c'] 63);have HR:=qqh (hr.keep (aa.any hba) (fun _ _=>bg.keep (aa.any hba)));have eC:=qqh (hf.alloc (.cells #[.string p.name,.slice A' n' c'] 63));have bf:=qqh (hb.trans (hba.mono hz));have HP:=qqh (an.new wr 63 #[.string p.name,.slice A' n' c']);have j6:=qqh (show p.rules.length=n' from hr.len);clear aN hr hf hb hba hp;go_upto_region 10 with fail;generalize hW:wr.alloc (.cells #[.string p.name,.slice A' n' c'] 63)=W at *;have Rr:wr.heap.size<W.heap.size:=HP.out.lt;clear hW e0 e1;have p0:W.cell? ⟨wr.heap.size,0,none⟩=some (.string p.name):=HP.out.cell 0;have p1:W.cell? ⟨wr.heap.size,1,none⟩=some (.slice A' n' c'):=HP.out.cell 1;have y0:=eC.out.cell 0;have y1:=eC.out.cell 1;have g0:=eC.out.frozen 0;have g1:=eC.out.frozen 1;cases en:isNone p.name
   ·have OJ:(p.name.toList == [])=false:=en;have vg:=qqh (show dr p=if gC p.name=false then 7 else if 0<p.rules.length then 8 else 0 by unfold dr;rw [en];rfl);clear en;obtain⟨pb,hpb⟩:∃ pb,gC p.name=pb:=⟨_,rfl⟩;have Mb:=qqh hpb;rw [hpb]at vg;clear hpb;have bN:=qqh (fun(q:Nat)=>below_drewN (bf.out.alloc bf.out.size (.cells #[.string fl,.string jy,.string gB,.string fc] 9)) q);have dV:=qqh (eC.out.alloc (.cells #[.string fl,.string jy,.string gB,.string fc] 9));have i7:=qqh (HP.out.alloc (.cells #[.string fl,.string jy,.string gB,.string fc] 9));go_upto_region 13 with fail;go_region_with (first | (go_at_call 42;refine(jj _).mono ?_;rintro e w' ⟨rfl,rfl⟩) | (go_at_call 41;refine(rM _ p.name _ Mb.out _ (pg (an.new _ _ _))).mono ?_;rintro e w' ⟨rfl,rfl⟩))
    all_goals
      have y0:=dV.out.cell 0
      have y1:=dV.out.cell 1
      have g0:=dV.out.frozen 0
      have g1:=dV.out.frozen 1
      have p0:=i7.out.cell 0
      have p1:=i7.out.cell 1
      cases pb
      · have HG:=qqh (show bu s=(7,(k:Int)) by rw [wN.out,dh.out,(show dr p=7 by rw [vg.out,if_pos rfl]),if_pos (by decide)])
        go_wp2_with fail
        rw [HG.out]
        exact bodyPost_ret (v:=.agg #[.int .i64 7,.int .i64 k]) (by simp [results,Tryz.results16,go_sem,y0,y1]) rfl ⟨rfl,((bN.out _).setCell (by simp) _).setCell (by simp) _⟩
      · by_cases h0:0<n'
        · have HG:=qqh (show bu s=(8,(k:Int)) by rw [wN.out,dh.out,(show dr p=8 by rw [vg.out,if_neg (by decide),if_pos (by rw [j6.out];exact h0)]),if_pos (by decide)])
          go_wp2_with fail
          rw [HG.out]
          exact bodyPost_ret (v:=.agg #[.int .i64 8,.int .i64 k]) (by simp [results,Tryz.results16,go_sem,y0,y1]) rfl ⟨rfl,((bN.out _).setCell (by simp) _).setCell (by simp) _⟩
        · have HZ:=qqh (show dr p=0 by rw [vg.out,if_neg (by decide),if_neg (by rw [j6.out];exact h0)])
          have HG:=qqh (dh.out.trans (if_neg (fun h=>h HZ.out)))
          obtain rfl:n'=0:=by omega
          go_wp2_with fail
          exact⟨⟨k+1,by omega,by go_num,HG.out,pg dV.out,bN.out _⟩,by simp [intOf];omega⟩
   have OJ:(p.name.toList == [])=true:=en;have HW:=qqh (show dr p=(bZ p.rules).1 by unfold dr;rw [en];rfl);clear en;obtain⟨r1,r2,hR⟩:∃ r1 r2,bZ p.rules=(r1,r2):=⟨_,_,rfl⟩;have tL:=qqh (pI X p.rules A' n' c' W hn' HR.out);rw [hR]at tL HW;dsimp only at tL HW;clear hR;have ED:=fun(W:World)=>lN r1 r2 W;go_wp2_with fail;refine tL.out.mono ?_;rintro e w3 ⟨rfl,bM⟩;have dV:=qqh (an.below eC.out bM eC.out.lt);have bN:=qqh (bf.out.trans (bM.mono bf.out.size));have y0:=dV.out.cell 0;have y1:=dV.out.cell 1;have g0:=dV.out.frozen 0;have g1:=dV.out.frozen 1;clear bM p0 p1;by_cases i6:r1=0
   ·subst i6;have HZ:=qqh (show dr p=0 from HW.out);have HG:=qqh (dh.out.trans (if_neg (fun h=>h HZ.out)));go_wp2_with fail;exact⟨⟨k+1,by omega,by go_num,HG.out,dV.out,bN.out⟩,by simp [intOf];omega⟩
   have HG:=qqh (show bu s=(r1,(k:Int)) by rw [wN.out,dh.out,HW.out,if_pos i6]);go_wp2_with fail;rw [HG.out];exact bodyPost_ret (v:=.agg #[.int .i64 r1,.int .i64 k]) (by simp [results,Tryz.results16,go_sem,y0,y1]) rfl ⟨rfl,(bN.out.setCell (by simp) _).setCell (by simp) _⟩
  obtain rfl:k=n2:=(by omega);rw [List.drop_of_length_le (by rw [aM.out];exact qql),cM]at aN;have HG:=qqh (wN.out.trans aN);have y0:=hf.cell 0;have y1:=hf.cell 1;have g0:=hf.frozen 0;have g1:=hf.frozen 1;clear aN hf;go_wp2_with fail;rw [HG.out];exact bodyPost_ret (v:=.agg #[.int .i64 0,.int .i64 0]) (by simp [results,Tryz.results16,go_sem,y0,y1]) rfl ⟨rfl,(hb.setCell (by simp) _).setCell (by simp) _⟩
 have HG:=qqh (show bu s=(bD s.only,0) by unfold bu;rw [if_pos ⟨ho,hz⟩]);have y0:=HF.out.cell 0;have y1:=HF.out.cell 1;have g0:=HF.out.frozen 0;have g1:=HF.out.frozen 1;generalize bD s.only=wp at *;go_wp2_with fail;rw [HG.out];exact bodyPost_ret (v:=.agg #[.int .i64 wp,.int .i64 0]) (by simp [results,Tryz.results16,go_sem,y0,y1]) rfl ⟨rfl,(HB.out.setCell (by simp) _).setCell (by simp) _⟩
theorem Dd (X:Nat→Prop) (s:aR) (A1 A2:Option Addr) (n1 c1 n2 c2:Nat) (w:World) (hs:fU w X s A1 n1 A2 n2) :
    Calls Tryz.prog 21 #[.agg #[.bool s.only?,.slice A1 n1 c1,.slice A2 n2 c2]] w fun e w'=>e=.returned (.agg #[.int .i64 (bu s).1,.int .i64 (bu s).2])∧Below w.heap.size w w':=by
 have Tr:=hs.m1;have hm2:=hs.m2;have aM:=qqh (show s.passes.length=n2 from hs.pas.len);have HS:=qqh hs;have HX:=qqh (an.alloc (an.new w 29 #[.bool s.only?,.slice A1 n1 c1,.slice A2 n2 c2]) (.cells #[.int .i64 0,.int .i64 0] 34));have HF:=qqh (show an ((w.alloc (.cells #[.bool s.only?,.slice A1 n1 c1,.slice A2 n2 c2] 29)).alloc (.cells #[.int .i64 0,.int .i64 0] 34)) (w.heap.size+1) 34 #[.int .i64 0,.int .i64 0] by
  have:=an.new (w.alloc (.cells #[.bool s.only?,.slice A1 n1 c1,.slice A2 n2 c2] 29)) 34 #[.int .i64 0,.int .i64 0];simpa using this)
 have HB:=qqh (((Below.refl w.heap.size w).alloc qql (.cells #[.bool s.only?,.slice A1 n1 c1,.slice A2 n2 c2] 29)).alloc (by simp) (.cells #[.int .i64 0,.int .i64 0] 34));simp only [maxLen]at Tr hm2;clear hs;go_enter Tryz.func21,Tryz.ntmps21;go_upto_region 1 with fail;generalize (w.alloc (.cells #[.bool s.only?,.slice A1 n1 c1,.slice A2 n2 c2] 29)).alloc (.cells #[.int .i64 0,.int .i64 0] 34)=W0 at *;have x0:W0.cell? ⟨w.heap.size,0,none⟩=some (.bool s.only?):=HX.out.cell 0;cases ho:s.only?
 ·have Cn:=qqh (show bu s=if 60<s.passes.length then (5,0)else cM 0 s.passes by unfold bu;rw [if_neg (by rw [ho];intro h;cases h.1)]);rw [ho]at x0;clear ho;have x2:W0.cell? ⟨w.heap.size,2,none⟩=some (.slice A2 n2 c2):=HX.out.cell 2;have y0:=HF.out.cell 0;have y1:=HF.out.cell 1;have g0:=HF.out.frozen 0;have g1:=HF.out.frozen 1;by_cases uo:60<n2
  ·have HG:=qqh (show bu s=(5,0) by rw [Cn.out,if_pos (by rw [aM.out];exact uo)]);have hgt:decide ((60:Int)<(n2:Int))=true:=decide_eq_true (by omega);go_wp2_with fail;rw [HG.out];exact bodyPost_ret (v:=.agg #[.int .i64 5,.int .i64 0]) (by simp [results,Tryz.results21,go_sem,y0,y1]) rfl ⟨rfl,(HB.out.setCell (by simp) _).setCell (by simp) _⟩
  have wN:=qqh (show bu s=cM 0 s.passes by rw [Cn.out,if_neg (by rw [aM.out];exact uo)]);have hgt:decide ((60:Int)<(n2:Int))=false:=decide_eq_false (by omega);clear Cn y0 y1 g0 g1;go_wp2_with fail;go_loopw [24] (Ii w s n2) (fun i _=>n2 - (intOf i).toNat);(case atStart=>exact⟨0,Nat.zero_le _,rfl,rfl,HF.out,HB.out⟩);obtain⟨k,hk,rfl,aN,hf,hb⟩:=hrel;have hz:=hb.size;by_cases hlt:k<n2
  ·obtain⟨p,hp⟩:∃ z,s.passes[k]? = some z:=⟨_,List.getElem?_eq_getElem (by rw [aM.out];exact hlt)⟩;obtain⟨b,off,A',n',c',rfl,_,cK,e0,e1,hr,hn'⟩:=oY (HS.out.pas.keep (aa.any hb) (fun _ _=>cX.keep (aa.any hb))) hp;rw [bR hp,cM]at aN;have dh:=qqh aN;have hba:=(Below.refl wr.heap.size wr).alloc qql (.cells #[.string p.name,.slice A' n' c'] 63);have HR:=qqh (hr.keep (aa.any hba) (fun _ _=>bg.keep (aa.any hba)));have eC:=qqh (hf.alloc (.cells #[.string p.name,.slice A' n' c'] 63));have bf:=qqh (hb.trans (hba.mono hz));have HP:=qqh (an.new wr 63 #[.string p.name,.slice A' n' c']);have j6:=qqh (show p.rules.length=n' from hr.len);clear aN hr hf hb hba hp;go_upto_region 10 with fail;generalize hW:wr.alloc (.cells #[.string p.name,.slice A' n' c'] 63)=W at *;have Rr:wr.heap.size<W.heap.size:=HP.out.lt;clear hW e0 e1;have p0:W.cell? ⟨wr.heap.size,0,none⟩=some (.string p.name):=HP.out.cell 0;have p1:W.cell? ⟨wr.heap.size,1,none⟩=some (.slice A' n' c'):=HP.out.cell 1;have y0:=eC.out.cell 0;have y1:=eC.out.cell 1;have g0:=eC.out.frozen 0;have g1:=eC.out.frozen 1;cases en:isNone p.name
   ·have OJ:(p.name.toList == [])=false:=en;have vg:=qqh (show dr p=if gC p.name=false then 7 else if 0<p.rules.length then 8 else 0 by unfold dr;rw [en];rfl);clear en;have RS:=qqh (C6 p.name W);obtain⟨pb,hpb⟩:∃ pb,gC p.name=pb:=⟨_,rfl⟩;rw [hpb]at vg RS;clear hpb;go_wp2_with fail;refine RS.out.mono ?_;rintro e w3 ⟨rfl,rfl⟩;cases pb
    ·have HG:=qqh (show bu s=(7,(k:Int)) by rw [wN.out,dh.out,(show dr p=7 by rw [vg.out,if_pos rfl]),if_pos (by decide)]);go_wp2_with fail;rw [HG.out];exact bodyPost_ret (v:=.agg #[.int .i64 7,.int .i64 k]) (by simp [results,Tryz.results21,go_sem,y0,y1]) rfl ⟨rfl,(bf.out.setCell (by simp) _).setCell (by simp) _⟩
    by_cases h0:0<n'
    ·have HG:=qqh (show bu s=(8,(k:Int)) by rw [wN.out,dh.out,(show dr p=8 by rw [vg.out,if_neg (by decide),if_pos (by rw [j6.out];exact h0)]),if_pos (by decide)]);go_wp2_with fail;rw [HG.out];exact bodyPost_ret (v:=.agg #[.int .i64 8,.int .i64 k]) (by simp [results,Tryz.results21,go_sem,y0,y1]) rfl ⟨rfl,(bf.out.setCell (by simp) _).setCell (by simp) _⟩
    have HZ:=qqh (show dr p=0 by rw [vg.out,if_neg (by decide),if_neg (by rw [j6.out];exact h0)]);have HG:=qqh (dh.out.trans (if_neg (fun h=>h HZ.out)));obtain rfl:n'=0:=(by omega);go_wp2_with fail;exact⟨⟨k+1,by omega,by go_num,HG.out,eC.out,bf.out⟩,by simp [intOf];omega⟩
   have OJ:(p.name.toList == [])=true:=en;have HW:=qqh (show dr p=(bZ p.rules).1 by unfold dr;rw [en];rfl);clear en;obtain⟨r1,r2,hR⟩:∃ r1 r2,bZ p.rules=(r1,r2):=⟨_,_,rfl⟩;have tL:=qqh (nE X p.rules A' n' c' W hn' HR.out);rw [hR]at tL HW;dsimp only at tL HW;clear hR;have ED:=fun(W:World)=>lN r1 r2 W;go_wp2_with fail;refine tL.out.mono ?_;rintro e w3 ⟨rfl,bM⟩;have dV:=qqh (an.alloc (an.below eC.out bM eC.out.lt) (.cells #[.int .i64 r1,.int .i64 r2] 34));have MU:=bf.out.trans (bM.mono bf.out.size);have bN:=qqh (MU.alloc MU.size (.cells #[.int .i64 r1,.int .i64 r2] 34));have y0:=dV.out.cell 0;have y1:=dV.out.cell 1;have g0:=dV.out.frozen 0;have g1:=dV.out.frozen 1;clear bM p0 p1;by_cases i6:r1=0
   ·subst i6;have HZ:=qqh (show dr p=0 from HW.out);have HG:=qqh (dh.out.trans (if_neg (fun h=>h HZ.out)));go_wp2_with fail;exact⟨⟨k+1,by omega,by go_num,HG.out,dV.out,bN.out⟩,by simp [intOf];omega⟩
   have HG:=qqh (show bu s=(r1,(k:Int)) by rw [wN.out,dh.out,HW.out,if_pos i6]);go_wp2_with fail;rw [HG.out];exact bodyPost_ret (v:=.agg #[.int .i64 r1,.int .i64 k]) (by simp [results,Tryz.results21,go_sem,y0,y1]) rfl ⟨rfl,(bN.out.setCell (by simp) _).setCell (by simp) _⟩
  obtain rfl:k=n2:=(by omega);rw [List.drop_of_length_le (by rw [aM.out];exact qql),cM]at aN;have HG:=qqh (wN.out.trans aN);have y0:=hf.cell 0;have y1:=hf.cell 1;have g0:=hf.frozen 0;have g1:=hf.frozen 1;clear aN hf;go_wp2_with fail;rw [HG.out];exact bodyPost_ret (v:=.agg #[.int .i64 0,.int .i64 0]) (by simp [results,Tryz.results21,go_sem,y0,y1]) rfl ⟨rfl,(hb.setCell (by simp) _).setCell (by simp) _⟩
 have x1:W0.cell? ⟨w.heap.size,1,none⟩=some (.slice A1 n1 c1):=HX.out.cell 1;have MG:=qqh (xj A1 n1 c1 s.only W0 (by omega) (cL.of (HS.out.only.keep (aa.any HB.out))));rw [ho]at x0;go_wp2_with fail;refine MG.out.mono ?_;rintro e w1 ⟨rfl,aP⟩;have HX:=qqh (an.below HX.out aP HX.out.lt);have HF:=qqh (an.below HF.out aP HF.out.lt);have HB:=qqh (HB.out.trans (aP.mono HB.out.size));clear aP MG x0 x1;by_cases hz:bD s.only=0
 ·have Cn:=qqh (show bu s=if 60<s.passes.length then (5,0)else cM 0 s.passes by unfold bu;rw [if_neg (fun h=>h.2 hz)]);rw [hz];clear hz ho;have x2:w1.cell? ⟨w.heap.size,2,none⟩=some (.slice A2 n2 c2):=HX.out.cell 2;have y0:=HF.out.cell 0;have y1:=HF.out.cell 1;have g0:=HF.out.frozen 0;have g1:=HF.out.frozen 1;by_cases uo:60<n2
  ·have HG:=qqh (show bu s=(5,0) by rw [Cn.out,if_pos (by rw [aM.out];exact uo)]);have hgt:decide ((60:Int)<(n2:Int))=true:=decide_eq_true (by omega);go_wp2_with fail;rw [HG.out];exact bodyPost_ret (v:=.agg #[.int .i64 5,.int .i64 0]) (by simp [results,Tryz.results21,go_sem,y0,y1]) rfl ⟨rfl,(HB.out.setCell (by simp) _).setCell (by simp) _⟩
  have wN:=qqh (show bu s=cM 0 s.passes by rw [Cn.out,if_neg (by rw [aM.out];exact uo)]);have hgt:decide ((60:Int)<(n2:Int))=false:=decide_eq_false (by omega);clear Cn y0 y1 g0 g1;go_wp2_with fail;go_loopw [24] (Ii w s n2) (fun i _=>n2 - (intOf i).toNat);(case atStart=>exact⟨0,Nat.zero_le _,rfl,rfl,HF.out,HB.out⟩);obtain⟨k,hk,rfl,aN,hf,hb⟩:=hrel;have hz:=hb.size;by_cases hlt:k<n2
  ·obtain⟨p,hp⟩:∃ z,s.passes[k]? = some z:=⟨_,List.getElem?_eq_getElem (by rw [aM.out];exact hlt)⟩;obtain⟨b,off,A',n',c',rfl,_,cK,e0,e1,hr,hn'⟩:=oY (HS.out.pas.keep (aa.any hb) (fun _ _=>cX.keep (aa.any hb))) hp;rw [bR hp,cM]at aN;have dh:=qqh aN;have hba:=(Below.refl wr.heap.size wr).alloc qql (.cells #[.string p.name,.slice A' n' c'] 63);have HR:=qqh (hr.keep (aa.any hba) (fun _ _=>bg.keep (aa.any hba)));have eC:=qqh (hf.alloc (.cells #[.string p.name,.slice A' n' c'] 63));have bf:=qqh (hb.trans (hba.mono hz));have HP:=qqh (an.new wr 63 #[.string p.name,.slice A' n' c']);have j6:=qqh (show p.rules.length=n' from hr.len);clear aN hr hf hb hba hp;go_upto_region 10 with fail;generalize hW:wr.alloc (.cells #[.string p.name,.slice A' n' c'] 63)=W at *;have Rr:wr.heap.size<W.heap.size:=HP.out.lt;clear hW e0 e1;have p0:W.cell? ⟨wr.heap.size,0,none⟩=some (.string p.name):=HP.out.cell 0;have p1:W.cell? ⟨wr.heap.size,1,none⟩=some (.slice A' n' c'):=HP.out.cell 1;have y0:=eC.out.cell 0;have y1:=eC.out.cell 1;have g0:=eC.out.frozen 0;have g1:=eC.out.frozen 1;cases en:isNone p.name
   ·have OJ:(p.name.toList == [])=false:=en;have vg:=qqh (show dr p=if gC p.name=false then 7 else if 0<p.rules.length then 8 else 0 by unfold dr;rw [en];rfl);clear en;have RS:=qqh (C6 p.name W);obtain⟨pb,hpb⟩:∃ pb,gC p.name=pb:=⟨_,rfl⟩;rw [hpb]at vg RS;clear hpb;go_wp2_with fail;refine RS.out.mono ?_;rintro e w3 ⟨rfl,rfl⟩;cases pb
    ·have HG:=qqh (show bu s=(7,(k:Int)) by rw [wN.out,dh.out,(show dr p=7 by rw [vg.out,if_pos rfl]),if_pos (by decide)]);go_wp2_with fail;rw [HG.out];exact bodyPost_ret (v:=.agg #[.int .i64 7,.int .i64 k]) (by simp [results,Tryz.results21,go_sem,y0,y1]) rfl ⟨rfl,(bf.out.setCell (by simp) _).setCell (by simp) _⟩
    by_cases h0:0<n'
    ·have HG:=qqh (show bu s=(8,(k:Int)) by rw [wN.out,dh.out,(show dr p=8 by rw [vg.out,if_neg (by decide),if_pos (by rw [j6.out];exact h0)]),if_pos (by decide)]);go_wp2_with fail;rw [HG.out];exact bodyPost_ret (v:=.agg #[.int .i64 8,.int .i64 k]) (by simp [results,Tryz.results21,go_sem,y0,y1]) rfl ⟨rfl,(bf.out.setCell (by simp) _).setCell (by simp) _⟩
    have HZ:=qqh (show dr p=0 by rw [vg.out,if_neg (by decide),if_neg (by rw [j6.out];exact h0)]);have HG:=qqh (dh.out.trans (if_neg (fun h=>h HZ.out)));obtain rfl:n'=0:=(by omega);go_wp2_with fail;exact⟨⟨k+1,by omega,by go_num,HG.out,eC.out,bf.out⟩,by simp [intOf];omega⟩
   have OJ:(p.name.toList == [])=true:=en;have HW:=qqh (show dr p=(bZ p.rules).1 by unfold dr;rw [en];rfl);clear en;obtain⟨r1,r2,hR⟩:∃ r1 r2,bZ p.rules=(r1,r2):=⟨_,_,rfl⟩;have tL:=qqh (nE X p.rules A' n' c' W hn' HR.out);rw [hR]at tL HW;dsimp only at tL HW;clear hR;have ED:=fun(W:World)=>lN r1 r2 W;go_wp2_with fail;refine tL.out.mono ?_;rintro e w3 ⟨rfl,bM⟩;have dV:=qqh (an.alloc (an.below eC.out bM eC.out.lt) (.cells #[.int .i64 r1,.int .i64 r2] 34));have MU:=bf.out.trans (bM.mono bf.out.size);have bN:=qqh (MU.alloc MU.size (.cells #[.int .i64 r1,.int .i64 r2] 34));have y0:=dV.out.cell 0;have y1:=dV.out.cell 1;have g0:=dV.out.frozen 0;have g1:=dV.out.frozen 1;clear bM p0 p1;by_cases i6:r1=0
   ·subst i6;have HZ:=qqh (show dr p=0 from HW.out);have HG:=qqh (dh.out.trans (if_neg (fun h=>h HZ.out)));go_wp2_with fail;exact⟨⟨k+1,by omega,by go_num,HG.out,dV.out,bN.out⟩,by simp [intOf];omega⟩
   have HG:=qqh (show bu s=(r1,(k:Int)) by rw [wN.out,dh.out,HW.out,if_pos i6]);go_wp2_with fail;rw [HG.out];exact bodyPost_ret (v:=.agg #[.int .i64 r1,.int .i64 k]) (by simp [results,Tryz.results21,go_sem,y0,y1]) rfl ⟨rfl,(bN.out.setCell (by simp) _).setCell (by simp) _⟩
  obtain rfl:k=n2:=(by omega);rw [List.drop_of_length_le (by rw [aM.out];exact qql),cM]at aN;have HG:=qqh (wN.out.trans aN);have y0:=hf.cell 0;have y1:=hf.cell 1;have g0:=hf.frozen 0;have g1:=hf.frozen 1;clear aN hf;go_wp2_with fail;rw [HG.out];exact bodyPost_ret (v:=.agg #[.int .i64 0,.int .i64 0]) (by simp [results,Tryz.results21,go_sem,y0,y1]) rfl ⟨rfl,(hb.setCell (by simp) _).setCell (by simp) _⟩
 have HG:=qqh (show bu s=(bD s.only,0) by unfold bu;rw [if_pos ⟨ho,hz⟩]);have y0:=HF.out.cell 0;have y1:=HF.out.cell 1;have g0:=HF.out.frozen 0;have g1:=HF.out.frozen 1;generalize bD s.only=wp at *;go_wp2_with fail;rw [HG.out];exact bodyPost_ret (v:=.agg #[.int .i64 wp,.int .i64 0]) (by simp [results,Tryz.results21,go_sem,y0,y1]) rfl ⟨rfl,(HB.out.setCell (by simp) _).setCell (by simp) _⟩
theorem De (l:List az):∀ (left:Nat) (done rest:List Int) (s p:Nat),done.length+rest.length≤4000→(dI l left done rest s p).1.text.length≤4000:=by
 intro left;induction left with
 | zero=>
  intro done rest s p h;cases rest with
  | nil=>simpa [oO] using h
  | cons z rest=>exact Nat.zero_le _
 | succ left ih=>
  intro done rest s p h;cases rest with
  | nil=>simpa [oO] using h
  | cons z rest=>
   rw [dI];split
   ·refine ih _ _ _ _ ?_;simp only [List.length_append,List.length_cons,List.length_nil]at h ⊢;omega
   split;exact Nat.zero_le _;split;exact Nat.zero_le _;rename_i hm;refine ih _ _ _ _ ?_;rw [List.length_append,Nat.add_assoc,← List.length_append,List.take_append_drop];omega
theorem oc {t:List Int} (h:cW t=0):t.length≤4000:=by
 unfold cW at h;by_cases h4:4000<t.length
 ·rw [if_pos h4]at h;cases h
 omega
theorem Fi (l:List az) (t:List Int):(fQ l t).1.text.length≤4000:=by
 unfold fQ;split;exact Nat.zero_le _;split;exact Nat.zero_le _;rename_i h;split;exact Nat.zero_le _;unfold rA;split;exact Nat.zero_le _;exact De l _ _ _ _ _ (by have:=oc (t:=t) (by omega);simpa using this)
theorem qA (p:cz) {l:List Int} (h:l.length≤4000):(iM p l).1.length≤4000:=by
 unfold iM;split
 ·simpa using h
 split
 ·simpa using h
 split;exact Nat.zero_le _;split;exact h;exact Fi _ _
def allI:Nat→List cz→List Int→List Int × (Int × Int)
  | _,[],l=>(l,(0,0))
  | k,p::ps,l=>if (iM p l).2≠0 then ([],((iM p l).2,(k:Int)))else allI (k+1) ps (iM p l).1
theorem vR:∀ (ps:List cz) (k:Nat) (l:List Int),l.length≤4000→(allI k ps l).1.length≤4000:=by
 intro ps;induction ps with
 | nil=>intro k l h;exact h
 | cons p ps ih=>
  intro k l h;rw [allI];split;exact Nat.zero_le _;exact ih _ _ (qA p h)
def Qp (Y:Nat→Prop) (lo:Nat) (w':World) (o:List Int × (Int × Int)) (e:Ending):Prop :=
  ∃ (A:Option Addr) (n c:Nat),e=.returned (.tuple #[.slice A n c,.agg #[.int .i64 o.2.1,.int .i64 o.2.2]])∧cL w' (fun b=>Y b∨lo≤b) 1 A n (runeCells o.1)
def Xq (w:World) (Y:Nat→Prop) (s:aR) (l:List Int) (n2:Nat) (s1 i:Value) (wr:World):Prop :=
  ∃ (k:Nat) (l':List Int) (A:Option Addr) (n c:Nat),k≤n2∧i=.int .i64 k∧s1=.slice A n c∧cL wr (fun b=>Y b∨w.heap.size≤b) 1 A n (runeCells l')∧cL wr (fun b=>(Y b∨w.heap.size≤b)∧b≠w.heap.size) 1 A n (runeCells l')∧l'.length≤4000∧allI 0 s.passes l=allI k (s.passes.drop k) l'∧an wr w.heap.size 34 #[.int .i64 0,.int .i64 0]∧Below w.heap.size w wr
theorem zv (X Y:Nat→Prop) (s:aR) (b0:Nat) (A1 A2 A:Option Addr) (n1 n2 c2 n c:Nat) (l:List Int) (w:World) (hs:fU w X s A1 n1 A2 n2) (h0:w.cell? ⟨b0,2,none⟩=some (.slice A2 n2 c2)) (hb0:b0<w.heap.size) (TX:l.length≤4000) (hl:cL w Y 1 A n (runeCells l)) :
    Calls Tryz.prog 19 #[.pointer (some ⟨b0,0,none⟩),.slice A n c] w fun e w'=>Qp Y w.heap.size w' (allI 0 s.passes l) e∧Below w.heap.size w w':=by
 have hm2:=hs.m2;have hba:=(Below.refl w.heap.size w).alloc qql (.cells #[.int .i64 0,.int .i64 0] 34);have d2:(w.alloc (.cells #[.int .i64 0,.int .i64 0] 34)).cell? ⟨b0,2,none⟩=some (.slice A2 n2 c2):=(hba.cell (p:=⟨b0,2,none⟩) hb0).trans h0;have aM:=qqh (show s.passes.length=n2 from hs.pas.len);have HS:=qqh hs;have lX:=qqh (an.new w 34 #[.int .i64 0,.int .i64 0]);have cy:=qqh hba;have To:=qqh (hl.keep (X':=fun b=>Y b∨w.heap.size≤b) (aa.below hba (fun _ h _=>.inl h)));have K0:=qqh (hl.keep (X':=fun b=>(Y b∨w.heap.size≤b)∧b≠w.heap.size) (aa.below hba (fun b h hl=>⟨.inl h,by omega⟩)));have WG:=qqh TX;clear hs hba hl h0;simp only [maxLen]at hm2;go_enter Tryz.func19,Tryz.ntmps19;go_wp2_with fail;go_loopw [1,14] (Xq w Y s l n2) (fun _ i _=>n2 - (intOf i).toNat);(case atStart=>exact⟨0,l,A,n,c,Nat.zero_le _,rfl,rfl,To.out,K0.out,WG.out,rfl,lX.out,cy.out⟩);obtain⟨k,l',A',n',c',hk,rfl,rfl,hl,hl',aai,aN,hf,hb⟩:=hrel;have hz:=hb.size;have V6:=hl.1;rw [runeCells_length]at V6;by_cases hlt:k<n2
 ·obtain⟨p,hp⟩:∃ z,s.passes[k]? = some z:=⟨_,List.getElem?_eq_getElem (by rw [aM.out];exact hlt)⟩;obtain⟨b,off,Ar,nr,cr,rfl,_,cK,e0,e1,hr,Cp⟩:=oY (HS.out.pas.keep (aa.any hb) (fun _ _=>cX.keep (aa.any hb))) hp;rw [bR hp,allI]at aN;have dh:=qqh aN;have hba:=(Below.refl wr.heap.size wr).alloc qql (.cells #[.string p.name,.slice Ar nr cr] 63);have eC:=qqh (hf.alloc (.cells #[.string p.name,.slice Ar nr cr] 63));have bf:=qqh (hb.trans (hba.mono hz));have HP:=qqh (an.new wr 63 #[.string p.name,.slice Ar nr cr]);have HM:=qqh (GM X (fun b=>(Y b∨w.heap.size≤b)∧b≠w.heap.size) p Ar A' nr cr n' c' l' (wr.alloc (.cells #[.string p.name,.slice Ar nr cr] 63)) Cp (hr.keep (aa.any hba) (fun _ _=>bg.keep (aa.any hba))) (by omega) (hl'.keep (aa.any hba)));have IG:=qqh (qA p aai);clear aN hr hf hb hba hp hl hl';go_upto_region 4 with fail;generalize hW:wr.alloc (.cells #[.string p.name,.slice Ar nr cr] 63)=W at *;have Rr:wr.heap.size<W.heap.size:=HP.out.lt;clear hW e0 e1;have p0:W.cell? ⟨wr.heap.size,0,none⟩=some (.string p.name):=HP.out.cell 0;have p1:W.cell? ⟨wr.heap.size,1,none⟩=some (.slice Ar nr cr):=HP.out.cell 1;go_wp2_with fail;refine HM.out.mono ?_;rintro e w3 ⟨⟨A3,n3,c3,rfl,lH⟩,bM⟩;have hwW:=eC.out.lt;have qD:=qqh (lH.keep (X':=fun b=>Y b∨w.heap.size≤b) (aa.refl (fun b h=>by rcases h with h | h;exact h.1;exact .inr (by omega))));have SV:=qqh (lH.keep (X':=fun b=>(Y b∨w.heap.size≤b)∧b≠w.heap.size) (aa.refl (fun b h=>by rcases h with h | h;exact h;exact⟨.inr (by omega),by omega⟩)));have dV:=qqh (an.below eC.out bM eC.out.lt);have bN:=qqh (bf.out.trans (bM.mono bf.out.size));have y0:=dV.out.cell 0
  have y1:=dV.out.cell 1;have g0:=dV.out.frozen 0;have g1:=dV.out.frozen 1;obtain⟨x,f,hx⟩:∃ x f,iM p l'=(x,f):=⟨_,_,rfl⟩;rw [hx]at dh IG qD SV ⊢;dsimp only at dh IG qD SV ⊢;clear bM lH p0 p1 HM hx;by_cases QM:f=0
  ·subst QM;have HG:=qqh (dh.out.trans (if_neg (fun h=>h rfl)));go_wp2_with fail;exact⟨⟨k+1,x,A3,n3,c3,by omega,by go_num,rfl,qD.out,SV.out,IG.out,HG.out,dV.out,bN.out⟩,by simp [intOf];omega⟩
  have HG:=qqh (dh.out.trans (if_pos QM));go_wp2_with fail;rw [HG.out];exact bodyPost_ret (v:=.tuple #[.slice none 0 0,.agg #[.int .i64 f,.int .i64 k]]) (by simp [results,Tryz.results19,go_sem,y0,y1]) rfl ⟨⟨none,0,0,rfl,⟨rfl,fun h=>absurd h (Nat.lt_irrefl 0)⟩⟩,(bN.out.setCell (by simp) _).setCell (by simp) _⟩
 obtain rfl:k=n2:=(by omega);rw [List.drop_of_length_le (by rw [aM.out];exact qql),allI]at aN;have HG:=qqh aN;have y0:=hf.cell 0;have y1:=hf.cell 1;have g0:=hf.frozen 0;have g1:=hf.frozen 1;have HR:=qqh ((hl'.keep (aa.setCell (X':=fun b=>(Y b∨w.heap.size≤b)∧b≠w.heap.size) (p:=⟨w.heap.size,0,none⟩) (.int .i64 0) (fun b h=>h.2) (fun _ h _=>h))).keep (aa.setCell (X':=fun b=>Y b∨w.heap.size≤b) (p:=⟨w.heap.size,1,none⟩) (.int .i64 0) (fun b h=>h.2) (fun _ h _=>h.1)));have HB:=qqh hb;clear aN hl hl' hf hb;go_wp2_with fail;rw [HG.out];exact bodyPost_ret (v:=.tuple #[.slice A' n' c',.agg #[.int .i64 0,.int .i64 0]]) (by simp [results,Tryz.results19,go_sem,y0,y1]) rfl ⟨⟨A',n',c',rfl,HR.out⟩,(HB.out.setCell (by simp) _).setCell (by simp) _⟩
end Go.Proofs.YtamkjeipdjbemaaGreatDoor
