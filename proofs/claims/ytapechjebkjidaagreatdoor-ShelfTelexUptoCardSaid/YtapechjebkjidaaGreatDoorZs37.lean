/- Script + ChainAll + RefRunAll -/
import Derived.Test.YtapechjebkjidaaGreatDoorZs36
import Derived.Deep.RegionWith
import Derived.Test.YtapechjebkjidaaGreatDoorZs32
import Derived.BigRegion
set_option maxHeartbeats 6400000
set_option maxRecDepth 100000
namespace Go.Proofs.YtapechjebkjidaaGreatDoor
open Go.RowKit
theorem oU {w:World} {g:Nat} {t:TypeId} {cs:Array Value} (h:ak w g t cs):ak w.drew g t cs:=h
def isNone (s:ByteArray):Bool:=s.toList == []
def jg (p:cE):Int:=if isNone p.name=true then (dY p.rules).1 else if jZ p.name=false then 7 else if 0<p.rules.length then 8 else 0
def fV:Nat→List cE→Int × Int
  | _,[]=>(0,0)
  | k,p::l=>if jg p≠0 then (jg p,(k:Int))else fV (k+1) l
def cI (s:bl):Int × Int :=
  if s.only? = true∧bV s.only≠0 then (bV s.only,0)else if 60<s.passes.length then (5,0)else fV 0 s.passes
structure jL (w:World) (X:Nat→Prop) (s:bl) (A1:Option Addr) (n1:Nat) (A2:Option Addr) (n2:Nat):Prop where
  only:di w X 2 A1 n1 (aj s.only)
  pas:cm (cR w X) w X 2 A2 n2 s.passes
  m1:n1≤maxLen
  m2:n2≤maxLen
theorem jL.keep {w w':World} {X X':Nat→Prop} {s:bl} {A1 A2:Option Addr} {n1 n2:Nat} (hk:ag w X w' X') (h:jL w X s A1 n1 A2 n2):jL w' X' s A1 n1 A2 n2 :=
  ⟨h.only.keep hk,h.pas.keep hk (fun _ _=>cR.keep hk),h.m1,h.m2⟩
theorem BZ {w:World} {X:Nat→Prop} {A:Option Addr} {n:Nat} {l:List cE} (h:cm (cR w X) w X 2 A n l) {k:Nat} {p:cE} (hk:l[k]? = some p) :
    ∃ (b off:Nat) (A':Option Addr) (n' c':Nat),A=some ⟨b,off,none⟩∧X b∧b<w.heap.size∧w.cell? ⟨b,off+k*2,none⟩=some (.string p.name)∧w.cell? ⟨b,off+k*2+1,none⟩=some (.slice A' n' c')∧cm (bE w X) w X 7 A' n' p.rules∧n'≤maxLen:=by
 obtain⟨b,off,cs,e,hx,hb,⟨u,rfl,A',n',c',rfl,h1,h2⟩,_,hc⟩:=h.at hk;have c0:=hc 0 _ rfl;have c1:=hc 1 _ rfl;rw [Nat.add_zero]at c0;exact⟨b,off,A',n',c',e,hx,hb,c0,c1,h1,h2⟩
theorem uM (a b:Int) (w:World):(Instr.field 51 (.agg #[.int .i64 a,.int .i64 b]) 0).run Tryz.prog w=.ok (.int .i64 a) w:=by kernel_rfl
def Rn (w:World) (s:bl) (n:Nat) (i:Value) (wr:World):Prop :=
  ∃ k:Nat,k≤n∧i=.int .i64 k∧fV 0 s.passes=fV k (s.passes.drop k)∧ak wr (w.heap.size+1) 51 #[.int .i64 0,.int .i64 0]∧Below w.heap.size w wr
theorem Ep (X:Nat→Prop) (s:bl) (A1 A2:Option Addr) (n1 c1 n2 c2:Nat) (w:World) (hs:jL w X s A1 n1 A2 n2) :
    Calls Tryz.prog 43 #[.agg #[.bool s.only?,.slice A1 n1 c1,.slice A2 n2 c2]] w fun e w'=>e=.returned (.agg #[.int .i64 (cI s).1,.int .i64 (cI s).2])∧Below w.heap.size w w':=by
 have hm1:=hs.m1;have hm2:=hs.m2;have aY:=Lib.hid (show s.passes.length=n2 from hs.pas.len);have HS:=Lib.hid hs;have HX:=Lib.hid (ak.alloc (ak.new w 47 #[.bool s.only?,.slice A1 n1 c1,.slice A2 n2 c2]) (.cells #[.int .i64 0,.int .i64 0] 51));have HF:=Lib.hid (show ak ((w.alloc (.cells #[.bool s.only?,.slice A1 n1 c1,.slice A2 n2 c2] 47)).alloc (.cells #[.int .i64 0,.int .i64 0] 51)) (w.heap.size+1) 51 #[.int .i64 0,.int .i64 0] by
  have:=ak.new (w.alloc (.cells #[.bool s.only?,.slice A1 n1 c1,.slice A2 n2 c2] 47)) 51 #[.int .i64 0,.int .i64 0];simpa using this)
 have HB:=Lib.hid (((Below.refl w.heap.size w).alloc (Nat.le_refl _) (.cells #[.bool s.only?,.slice A1 n1 c1,.slice A2 n2 c2] 47)).alloc (by simp) (.cells #[.int .i64 0,.int .i64 0] 51));simp only [maxLen]at hm1 hm2;clear hs;go_enter Tryz.func43,Tryz.ntmps43;go_upto_region 1 with fail;generalize (w.alloc (.cells #[.bool s.only?,.slice A1 n1 c1,.slice A2 n2 c2] 47)).alloc (.cells #[.int .i64 0,.int .i64 0] 51)=W0 at *;have x0:W0.cell? ⟨w.heap.size,0,none⟩=some (.bool s.only?):=HX.out.cell 0;cases ho:s.only?
 ·have Fo:=Lib.hid (show cI s=if 60<s.passes.length then (5,0)else fV 0 s.passes by unfold cI;rw [if_neg (by rw [ho];intro h;cases h.1)]);rw [ho]at x0;clear ho;have x2:W0.cell? ⟨w.heap.size,2,none⟩=some (.slice A2 n2 c2):=HX.out.cell 2;have y0:=HF.out.cell 0;have y1:=HF.out.cell 1;have g0:=HF.out.frozen 0;have g1:=HF.out.frozen 1;by_cases zN:60<n2
  ·have HG:=Lib.hid (show cI s=(5,0) by rw [Fo.out,if_pos (by rw [aY.out];exact zN)]);have hgt:decide ((60:Int)<(n2:Int))=true:=decide_eq_true (by omega);go_wp2_with fail;rw [HG.out];exact bodyPost_ret (v:=.agg #[.int .i64 5,.int .i64 0]) (by simp [results,Tryz.results43,go_sem,y0,y1]) rfl ⟨rfl,(HB.out.setCell (by simp) _).setCell (by simp) _⟩
  have Ow:=Lib.hid (show cI s=fV 0 s.passes by rw [Fo.out,if_neg (by rw [aY.out];exact zN)]);have hgt:decide ((60:Int)<(n2:Int))=false:=decide_eq_false (by omega);clear Fo y0 y1 g0 g1;go_wp2_with fail;go_loopw [24] (Rn w s n2) (fun i _=>n2 - (intOf i).toNat);(case atStart=>exact⟨0,Nat.zero_le _,rfl,rfl,HF.out,HB.out⟩);obtain⟨k,hk,rfl,bf,hf,hb⟩:=hrel;have hz:=hb.size;by_cases hlt:k<n2
  ·obtain⟨p,hp⟩:∃ z,s.passes[k]? = some z:=⟨_,List.getElem?_eq_getElem (by rw [aY.out];exact hlt)⟩;obtain⟨b,off,A',n',c',rfl,_,dL,e0,e1,hr,hn'⟩:=BZ (HS.out.pas.keep (ag.any hb) (fun _ _=>cR.keep (ag.any hb))) hp;rw [dN hp,fV]at bf;have fh:=Lib.hid bf;have hba:=(Below.refl wr.heap.size wr).alloc (Nat.le_refl _) (.cells #[.string p.name,.slice A' n' c'] 105);have HR:=Lib.hid (hr.keep (ag.any hba) (fun _ _=>bE.keep (ag.any hba)));have gz:=Lib.hid (hf.alloc (.cells #[.string p.name,.slice A' n' c'] 105));have aW:=Lib.hid (hb.trans (hba.mono hz));have HP:=Lib.hid (ak.new wr 105 #[.string p.name,.slice A' n' c']);have uH:=Lib.hid (show p.rules.length=n' from hr.len);clear bf hr hf hb hba hp;go_upto_region 10 with fail;generalize hW:wr.alloc (.cells #[.string p.name,.slice A' n' c'] 105)=W at *;have hwz:wr.heap.size<W.heap.size:=HP.out.lt;clear hW e0 e1;have p0:W.cell? ⟨wr.heap.size,0,none⟩=some (.string p.name):=HP.out.cell 0;have p1:W.cell? ⟨wr.heap.size,1,none⟩=some (.slice A' n' c'):=HP.out.cell 1;have y0:=gz.out.cell 0;have y1:=gz.out.cell 1;have g0:=gz.out.frozen 0;have g1:=gz.out.frozen 1;cases en:isNone p.name
   ·have en1:(p.name.toList == [])=false:=en;have IQ:=Lib.hid (show jg p=if jZ p.name=false then 7 else if 0<p.rules.length then 8 else 0 by unfold jg;rw [en];rfl);clear en;obtain⟨pb,hpb⟩:∃ pb,jZ p.name=pb:=⟨_,rfl⟩;have Sz:=Lib.hid hpb;rw [hpb]at IQ;clear hpb;have bW:=Lib.hid (fun(q:Nat)=>below_drewN (aW.out.alloc aW.out.size (.cells #[.string fP,.string kG,.string ij,.string fT] 9)) q);have eE:=Lib.hid (gz.out.alloc (.cells #[.string fP,.string kG,.string ij,.string fT] 9));have jP:=Lib.hid (HP.out.alloc (.cells #[.string fP,.string kG,.string ij,.string fT] 9));go_upto_region 13 with fail;go_region_with (first | (go_at_call 65;refine(iZ _).mono ?_;rintro e w' ⟨rfl,rfl⟩) | (go_at_call 64;refine(rQ _ p.name _ Sz.out _ (oU (ak.new _ _ _))).mono ?_;rintro e w' ⟨rfl,rfl⟩))
    all_goals
      have y0:=eE.out.cell 0
      have y1:=eE.out.cell 1
      have g0:=eE.out.frozen 0
      have g1:=eE.out.frozen 1
      have p0:=jP.out.cell 0
      have p1:=jP.out.cell 1
      cases pb
      · have HG:=Lib.hid (show cI s=(7,(k:Int)) by rw [Ow.out,fh.out,(show jg p=7 by rw [IQ.out,if_pos rfl]),if_pos (by decide)])
        go_wp2_with fail
        rw [HG.out]
        exact bodyPost_ret (v:=.agg #[.int .i64 7,.int .i64 k]) (by simp [results,Tryz.results43,go_sem,y0,y1]) rfl ⟨rfl,((bW.out _).setCell (by simp) _).setCell (by simp) _⟩
      · by_cases h0:0<n'
        · have HG:=Lib.hid (show cI s=(8,(k:Int)) by rw [Ow.out,fh.out,(show jg p=8 by rw [IQ.out,if_neg (by decide),if_pos (by rw [uH.out];exact h0)]),if_pos (by decide)])
          go_wp2_with fail
          rw [HG.out]
          exact bodyPost_ret (v:=.agg #[.int .i64 8,.int .i64 k]) (by simp [results,Tryz.results43,go_sem,y0,y1]) rfl ⟨rfl,((bW.out _).setCell (by simp) _).setCell (by simp) _⟩
        · have HZ:=Lib.hid (show jg p=0 by rw [IQ.out,if_neg (by decide),if_neg (by rw [uH.out];exact h0)])
          have HG:=Lib.hid (fh.out.trans (if_neg (fun h=>h HZ.out)))
          obtain rfl:n'=0:=by omega
          go_wp2_with fail
          exact⟨⟨k+1,by omega,by go_num,HG.out,oU eE.out,bW.out _⟩,by simp [intOf];omega⟩
   have en1:(p.name.toList == [])=true:=en;have HW:=Lib.hid (show jg p=(dY p.rules).1 by unfold jg;rw [en];rfl);clear en;obtain⟨r1,r2,hR⟩:∃ r1 r2,dY p.rules=(r1,r2):=⟨_,_,rfl⟩;have Be:=Lib.hid (oW X p.rules A' n' c' W hn' HR.out);rw [hR]at Be HW;dsimp only at Be HW;clear hR;have Hv:=fun(W:World)=>uM r1 r2 W;go_wp2_with fail;refine Be.out.mono ?_;rintro e w3 ⟨rfl,bQ⟩;have eE:=Lib.hid (ak.below gz.out bQ gz.out.lt);have bW:=Lib.hid (aW.out.trans (bQ.mono aW.out.size));have y0:=eE.out.cell 0;have y1:=eE.out.cell 1;have g0:=eE.out.frozen 0;have g1:=eE.out.frozen 1;clear bQ p0 p1;by_cases rj:r1=0
   ·subst rj;have HZ:=Lib.hid (show jg p=0 from HW.out);have HG:=Lib.hid (fh.out.trans (if_neg (fun h=>h HZ.out)));go_wp2_with fail;exact⟨⟨k+1,by omega,by go_num,HG.out,eE.out,bW.out⟩,by simp [intOf];omega⟩
   have HG:=Lib.hid (show cI s=(r1,(k:Int)) by rw [Ow.out,fh.out,HW.out,if_pos rj]);go_wp2_with fail;rw [HG.out];exact bodyPost_ret (v:=.agg #[.int .i64 r1,.int .i64 k]) (by simp [results,Tryz.results43,go_sem,y0,y1]) rfl ⟨rfl,(bW.out.setCell (by simp) _).setCell (by simp) _⟩
  obtain rfl:k=n2:=(by omega);rw [List.drop_of_length_le (by rw [aY.out];exact Nat.le_refl _),fV]at bf;have HG:=Lib.hid (Ow.out.trans bf);have y0:=hf.cell 0;have y1:=hf.cell 1;have g0:=hf.frozen 0;have g1:=hf.frozen 1;clear bf hf;go_wp2_with fail;rw [HG.out];exact bodyPost_ret (v:=.agg #[.int .i64 0,.int .i64 0]) (by simp [results,Tryz.results43,go_sem,y0,y1]) rfl ⟨rfl,(hb.setCell (by simp) _).setCell (by simp) _⟩
 have x1:W0.cell? ⟨w.heap.size,1,none⟩=some (.slice A1 n1 c1):=HX.out.cell 1;have Wh:=Lib.hid (jk A1 n1 c1 s.only W0 (by omega) (di.of (HS.out.only.keep (ag.any HB.out))));rw [ho]at x0;go_wp2_with fail;refine Wh.out.mono ?_;rintro e w1 ⟨rfl,aT⟩;have HX:=Lib.hid (ak.below HX.out aT HX.out.lt);have HF:=Lib.hid (ak.below HF.out aT HF.out.lt);have HB:=Lib.hid (HB.out.trans (aT.mono HB.out.size));clear aT Wh x0 x1;by_cases hz:bV s.only=0
 ·have Fo:=Lib.hid (show cI s=if 60<s.passes.length then (5,0)else fV 0 s.passes by unfold cI;rw [if_neg (fun h=>h.2 hz)]);rw [hz];clear hz ho;have x2:w1.cell? ⟨w.heap.size,2,none⟩=some (.slice A2 n2 c2):=HX.out.cell 2;have y0:=HF.out.cell 0;have y1:=HF.out.cell 1;have g0:=HF.out.frozen 0;have g1:=HF.out.frozen 1;by_cases zN:60<n2
  ·have HG:=Lib.hid (show cI s=(5,0) by rw [Fo.out,if_pos (by rw [aY.out];exact zN)]);have hgt:decide ((60:Int)<(n2:Int))=true:=decide_eq_true (by omega);go_wp2_with fail;rw [HG.out];exact bodyPost_ret (v:=.agg #[.int .i64 5,.int .i64 0]) (by simp [results,Tryz.results43,go_sem,y0,y1]) rfl ⟨rfl,(HB.out.setCell (by simp) _).setCell (by simp) _⟩
  have Ow:=Lib.hid (show cI s=fV 0 s.passes by rw [Fo.out,if_neg (by rw [aY.out];exact zN)]);have hgt:decide ((60:Int)<(n2:Int))=false:=decide_eq_false (by omega);clear Fo y0 y1 g0 g1;go_wp2_with fail;go_loopw [24] (Rn w s n2) (fun i _=>n2 - (intOf i).toNat);(case atStart=>exact⟨0,Nat.zero_le _,rfl,rfl,HF.out,HB.out⟩);obtain⟨k,hk,rfl,bf,hf,hb⟩:=hrel;have hz:=hb.size;by_cases hlt:k<n2
  ·obtain⟨p,hp⟩:∃ z,s.passes[k]? = some z:=⟨_,List.getElem?_eq_getElem (by rw [aY.out];exact hlt)⟩;obtain⟨b,off,A',n',c',rfl,_,dL,e0,e1,hr,hn'⟩:=BZ (HS.out.pas.keep (ag.any hb) (fun _ _=>cR.keep (ag.any hb))) hp;rw [dN hp,fV]at bf;have fh:=Lib.hid bf;have hba:=(Below.refl wr.heap.size wr).alloc (Nat.le_refl _) (.cells #[.string p.name,.slice A' n' c'] 105);have HR:=Lib.hid (hr.keep (ag.any hba) (fun _ _=>bE.keep (ag.any hba)));have gz:=Lib.hid (hf.alloc (.cells #[.string p.name,.slice A' n' c'] 105));have aW:=Lib.hid (hb.trans (hba.mono hz));have HP:=Lib.hid (ak.new wr 105 #[.string p.name,.slice A' n' c']);have uH:=Lib.hid (show p.rules.length=n' from hr.len);clear bf hr hf hb hba hp;go_upto_region 10 with fail;generalize hW:wr.alloc (.cells #[.string p.name,.slice A' n' c'] 105)=W at *;have hwz:wr.heap.size<W.heap.size:=HP.out.lt;clear hW e0 e1;have p0:W.cell? ⟨wr.heap.size,0,none⟩=some (.string p.name):=HP.out.cell 0;have p1:W.cell? ⟨wr.heap.size,1,none⟩=some (.slice A' n' c'):=HP.out.cell 1;have y0:=gz.out.cell 0;have y1:=gz.out.cell 1;have g0:=gz.out.frozen 0;have g1:=gz.out.frozen 1;cases en:isNone p.name
   ·have en1:(p.name.toList == [])=false:=en;have IQ:=Lib.hid (show jg p=if jZ p.name=false then 7 else if 0<p.rules.length then 8 else 0 by unfold jg;rw [en];rfl);clear en;obtain⟨pb,hpb⟩:∃ pb,jZ p.name=pb:=⟨_,rfl⟩;have Sz:=Lib.hid hpb;rw [hpb]at IQ;clear hpb;have bW:=Lib.hid (fun(q:Nat)=>below_drewN (aW.out.alloc aW.out.size (.cells #[.string fP,.string kG,.string ij,.string fT] 9)) q);have eE:=Lib.hid (gz.out.alloc (.cells #[.string fP,.string kG,.string ij,.string fT] 9));have jP:=Lib.hid (HP.out.alloc (.cells #[.string fP,.string kG,.string ij,.string fT] 9));go_upto_region 13 with fail;go_region_with (first | (go_at_call 65;refine(iZ _).mono ?_;rintro e w' ⟨rfl,rfl⟩) | (go_at_call 64;refine(rQ _ p.name _ Sz.out _ (oU (ak.new _ _ _))).mono ?_;rintro e w' ⟨rfl,rfl⟩))
    all_goals
      have y0:=eE.out.cell 0
      have y1:=eE.out.cell 1
      have g0:=eE.out.frozen 0
      have g1:=eE.out.frozen 1
      have p0:=jP.out.cell 0
      have p1:=jP.out.cell 1
      cases pb
      · have HG:=Lib.hid (show cI s=(7,(k:Int)) by rw [Ow.out,fh.out,(show jg p=7 by rw [IQ.out,if_pos rfl]),if_pos (by decide)])
        go_wp2_with fail
        rw [HG.out]
        exact bodyPost_ret (v:=.agg #[.int .i64 7,.int .i64 k]) (by simp [results,Tryz.results43,go_sem,y0,y1]) rfl ⟨rfl,((bW.out _).setCell (by simp) _).setCell (by simp) _⟩
      · by_cases h0:0<n'
        · have HG:=Lib.hid (show cI s=(8,(k:Int)) by rw [Ow.out,fh.out,(show jg p=8 by rw [IQ.out,if_neg (by decide),if_pos (by rw [uH.out];exact h0)]),if_pos (by decide)])
          go_wp2_with fail
          rw [HG.out]
          exact bodyPost_ret (v:=.agg #[.int .i64 8,.int .i64 k]) (by simp [results,Tryz.results43,go_sem,y0,y1]) rfl ⟨rfl,((bW.out _).setCell (by simp) _).setCell (by simp) _⟩
        · have HZ:=Lib.hid (show jg p=0 by rw [IQ.out,if_neg (by decide),if_neg (by rw [uH.out];exact h0)])
          have HG:=Lib.hid (fh.out.trans (if_neg (fun h=>h HZ.out)))
          obtain rfl:n'=0:=by omega
          go_wp2_with fail
          exact⟨⟨k+1,by omega,by go_num,HG.out,oU eE.out,bW.out _⟩,by simp [intOf];omega⟩
   have en1:(p.name.toList == [])=true:=en;have HW:=Lib.hid (show jg p=(dY p.rules).1 by unfold jg;rw [en];rfl);clear en;obtain⟨r1,r2,hR⟩:∃ r1 r2,dY p.rules=(r1,r2):=⟨_,_,rfl⟩;have Be:=Lib.hid (oW X p.rules A' n' c' W hn' HR.out);rw [hR]at Be HW;dsimp only at Be HW;clear hR;have Hv:=fun(W:World)=>uM r1 r2 W;go_wp2_with fail;refine Be.out.mono ?_;rintro e w3 ⟨rfl,bQ⟩;have eE:=Lib.hid (ak.below gz.out bQ gz.out.lt);have bW:=Lib.hid (aW.out.trans (bQ.mono aW.out.size));have y0:=eE.out.cell 0;have y1:=eE.out.cell 1;have g0:=eE.out.frozen 0;have g1:=eE.out.frozen 1;clear bQ p0 p1;by_cases rj:r1=0
   ·subst rj;have HZ:=Lib.hid (show jg p=0 from HW.out);have HG:=Lib.hid (fh.out.trans (if_neg (fun h=>h HZ.out)));go_wp2_with fail;exact⟨⟨k+1,by omega,by go_num,HG.out,eE.out,bW.out⟩,by simp [intOf];omega⟩
   have HG:=Lib.hid (show cI s=(r1,(k:Int)) by rw [Ow.out,fh.out,HW.out,if_pos rj]);go_wp2_with fail;rw [HG.out];exact bodyPost_ret (v:=.agg #[.int .i64 r1,.int .i64 k]) (by simp [results,Tryz.results43,go_sem,y0,y1]) rfl ⟨rfl,(bW.out.setCell (by simp) _).setCell (by simp) _⟩
  obtain rfl:k=n2:=(by omega);rw [List.drop_of_length_le (by rw [aY.out];exact Nat.le_refl _),fV]at bf;have HG:=Lib.hid (Ow.out.trans bf);have y0:=hf.cell 0;have y1:=hf.cell 1;have g0:=hf.frozen 0;have g1:=hf.frozen 1;clear bf hf;go_wp2_with fail;rw [HG.out];exact bodyPost_ret (v:=.agg #[.int .i64 0,.int .i64 0]) (by simp [results,Tryz.results43,go_sem,y0,y1]) rfl ⟨rfl,(hb.setCell (by simp) _).setCell (by simp) _⟩
 have HG:=Lib.hid (show cI s=(bV s.only,0) by unfold cI;rw [if_pos ⟨ho,hz⟩]);have y0:=HF.out.cell 0;have y1:=HF.out.cell 1;have g0:=HF.out.frozen 0;have g1:=HF.out.frozen 1;generalize bV s.only=wp at *;go_wp2_with fail;rw [HG.out];exact bodyPost_ret (v:=.agg #[.int .i64 wp,.int .i64 0]) (by simp [results,Tryz.results43,go_sem,y0,y1]) rfl ⟨rfl,(HB.out.setCell (by simp) _).setCell (by simp) _⟩
theorem Ey (l:List au):∀ (left:Nat) (done rest:List Int) (s p:Nat),done.length+rest.length≤4000→(fk l left done rest s p).1.text.length≤4000:=by
 intro left;induction left with
 | zero=>
  intro done rest s p h;cases rest with
  | nil=>simpa [tZ] using h
  | cons z rest=>exact Nat.zero_le _
 | succ left ih=>
  intro done rest s p h;cases rest with
  | nil=>simpa [tZ] using h
  | cons z rest=>
   rw [fk];split
   ·refine ih _ _ _ _ ?_;simp only [List.length_append,List.length_cons,List.length_nil]at h ⊢;omega
   split;exact Nat.zero_le _;split;exact Nat.zero_le _;rename_i hm;refine ih _ _ _ _ ?_;rw [List.length_append,Nat.add_assoc,← List.length_append,List.take_append_drop];omega
theorem ux {t:List Int} (h:gw t=0):t.length≤4000:=by
 unfold gw at h;by_cases h4:4000<t.length
 ·rw [if_pos h4]at h;cases h
 omega
theorem qJ (l:List au) (t:List Int):(gu l t).1.text.length≤4000:=by
 unfold gu;split;exact Nat.zero_le _;split;exact Nat.zero_le _;rename_i h;split;exact Nat.zero_le _;unfold Dl;split;exact Nat.zero_le _;exact Ey l _ _ _ _ _ (by have:=ux (t:=t) (by omega);simpa using this)
theorem xV (p:cE) {l:List Int} (h:l.length≤4000):(iI p l).1.length≤4000:=by
 unfold iI;split
 ·simpa using h
 split
 ·simpa using h
 split;exact Nat.zero_le _;split;exact h;exact qJ _ _
def allI:Nat→List cE→List Int→List Int × (Int × Int)
  | _,[],l=>(l,(0,0))
  | k,p::ps,l=>if (iI p l).2≠0 then ([],((iI p l).2,(k:Int)))else allI (k+1) ps (iI p l).1
theorem yu:∀ (ps:List cE) (k:Nat) (l:List Int),l.length≤4000→(allI k ps l).1.length≤4000:=by
 intro ps;induction ps with
 | nil=>intro k l h;exact h
 | cons p ps ih=>
  intro k l h;rw [allI];split;exact Nat.zero_le _;exact ih _ _ (xV p h)
def Pj (Y:Nat→Prop) (lo:Nat) (w':World) (o:List Int × (Int × Int)) (e:Ending):Prop :=
  ∃ (A:Option Addr) (n c:Nat),e=.returned (.tuple #[.slice A n c,.agg #[.int .i64 o.2.1,.int .i64 o.2.2]])∧di w' (fun b=>Y b∨lo≤b) 1 A n (runeCells o.1)
def U3 (w:World) (Y:Nat→Prop) (s:bl) (l:List Int) (n2:Nat) (s1 i:Value) (wr:World):Prop :=
  ∃ (k:Nat) (l':List Int) (A:Option Addr) (n c:Nat),k≤n2∧i=.int .i64 k∧s1=.slice A n c∧di wr (fun b=>Y b∨w.heap.size≤b) 1 A n (runeCells l')∧di wr (fun b=>(Y b∨w.heap.size≤b)∧b≠w.heap.size) 1 A n (runeCells l')∧l'.length≤4000∧allI 0 s.passes l=allI k (s.passes.drop k) l'∧ak wr w.heap.size 51 #[.int .i64 0,.int .i64 0]∧Below w.heap.size w wr
theorem zY (X Y:Nat→Prop) (s:bl) (b0:Nat) (A1 A2 A:Option Addr) (n1 n2 c2 n c:Nat) (l:List Int) (w:World) (hs:jL w X s A1 n1 A2 n2) (h0:w.cell? ⟨b0,2,none⟩=some (.slice A2 n2 c2)) (hb0:b0<w.heap.size) (Yr:l.length≤4000) (hl:di w Y 1 A n (runeCells l)) :
    Calls Tryz.prog 46 #[.pointer (some ⟨b0,0,none⟩),.slice A n c] w fun e w'=>Pj Y w.heap.size w' (allI 0 s.passes l) e∧Below w.heap.size w w':=by
 have hm2:=hs.m2;have hba:=(Below.refl w.heap.size w).alloc (Nat.le_refl _) (.cells #[.int .i64 0,.int .i64 0] 51);have d2:(w.alloc (.cells #[.int .i64 0,.int .i64 0] 51)).cell? ⟨b0,2,none⟩=some (.slice A2 n2 c2):=(hba.cell (p:=⟨b0,2,none⟩) hb0).trans h0;have aY:=Lib.hid (show s.passes.length=n2 from hs.pas.len);have HS:=Lib.hid hs;have td:=Lib.hid (ak.new w 51 #[.int .i64 0,.int .i64 0]);have ek:=Lib.hid hba;have SO:=Lib.hid (hl.keep (X':=fun b=>Y b∨w.heap.size≤b) (ag.below hba (fun _ h _=>.inl h)));have LC:=Lib.hid (hl.keep (X':=fun b=>(Y b∨w.heap.size≤b)∧b≠w.heap.size) (ag.below hba (fun b h hl=>⟨.inl h,by omega⟩)));have Xh:=Lib.hid Yr;clear hs hba hl h0;simp only [maxLen]at hm2;go_enter Tryz.func46,Tryz.ntmps46;go_wp2_with fail;go_loopw [1,14] (U3 w Y s l n2) (fun _ i _=>n2 - (intOf i).toNat);(case atStart=>exact⟨0,l,A,n,c,Nat.zero_le _,rfl,rfl,SO.out,LC.out,Xh.out,rfl,td.out,ek.out⟩);obtain⟨k,l',A',n',c',hk,rfl,rfl,hl,hl',ZB,bf,hf,hb⟩:=hrel;have hz:=hb.size;have FQ:=hl.1;rw [runeCells_length]at FQ;by_cases hlt:k<n2
 ·obtain⟨p,hp⟩:∃ z,s.passes[k]? = some z:=⟨_,List.getElem?_eq_getElem (by rw [aY.out];exact hlt)⟩;obtain⟨b,off,Ar,nr,cr,rfl,_,dL,e0,e1,hr,Re⟩:=BZ (HS.out.pas.keep (ag.any hb) (fun _ _=>cR.keep (ag.any hb))) hp;rw [dN hp,allI]at bf;have fh:=Lib.hid bf;have hba:=(Below.refl wr.heap.size wr).alloc (Nat.le_refl _) (.cells #[.string p.name,.slice Ar nr cr] 105);have gz:=Lib.hid (hf.alloc (.cells #[.string p.name,.slice Ar nr cr] 105));have aW:=Lib.hid (hb.trans (hba.mono hz));have HP:=Lib.hid (ak.new wr 105 #[.string p.name,.slice Ar nr cr]);have HM:=Lib.hid (GI X (fun b=>(Y b∨w.heap.size≤b)∧b≠w.heap.size) p Ar A' nr cr n' c' l' (wr.alloc (.cells #[.string p.name,.slice Ar nr cr] 105)) Re (hr.keep (ag.any hba) (fun _ _=>bE.keep (ag.any hba))) (by omega) (hl'.keep (ag.any hba)));have Te:=Lib.hid (xV p ZB);clear bf hr hf hb hba hp hl hl';go_upto_region 4 with fail;generalize hW:wr.alloc (.cells #[.string p.name,.slice Ar nr cr] 105)=W at *;have hwz:wr.heap.size<W.heap.size:=HP.out.lt;clear hW e0 e1;have p0:W.cell? ⟨wr.heap.size,0,none⟩=some (.string p.name):=HP.out.cell 0;have p1:W.cell? ⟨wr.heap.size,1,none⟩=some (.slice Ar nr cr):=HP.out.cell 1;go_wp2_with fail;refine HM.out.mono ?_;rintro e w3 ⟨⟨A3,n3,c3,rfl,mG⟩,bQ⟩;have hwW:=gz.out.lt;have uc:=Lib.hid (mG.keep (X':=fun b=>Y b∨w.heap.size≤b) (ag.refl (fun b h=>by rcases h with h | h;exact h.1;exact .inr (by omega))));have TP:=Lib.hid (mG.keep (X':=fun b=>(Y b∨w.heap.size≤b)∧b≠w.heap.size) (ag.refl (fun b h=>by rcases h with h | h;exact h;exact⟨.inr (by omega),by omega⟩)));have eE:=Lib.hid (ak.below gz.out bQ gz.out.lt);have bW:=Lib.hid (aW.out.trans (bQ.mono aW.out.size));have y0:=eE.out.cell 0
  have y1:=eE.out.cell 1;have g0:=eE.out.frozen 0;have g1:=eE.out.frozen 1;obtain⟨x,f,hx⟩:∃ x f,iI p l'=(x,f):=⟨_,_,rfl⟩;rw [hx]at fh Te uc TP ⊢;dsimp only at fh Te uc TP ⊢;clear bQ mG p0 p1 HM hx;by_cases hf0:f=0
  ·subst hf0;have HG:=Lib.hid (fh.out.trans (if_neg (fun h=>h rfl)));go_wp2_with fail;exact⟨⟨k+1,x,A3,n3,c3,by omega,by go_num,rfl,uc.out,TP.out,Te.out,HG.out,eE.out,bW.out⟩,by simp [intOf];omega⟩
  have HG:=Lib.hid (fh.out.trans (if_pos hf0));go_wp2_with fail;rw [HG.out];exact bodyPost_ret (v:=.tuple #[.slice none 0 0,.agg #[.int .i64 f,.int .i64 k]]) (by simp [results,Tryz.results46,go_sem,y0,y1]) rfl ⟨⟨none,0,0,rfl,⟨rfl,fun h=>absurd h (Nat.lt_irrefl 0)⟩⟩,(bW.out.setCell (by simp) _).setCell (by simp) _⟩
 obtain rfl:k=n2:=(by omega);rw [List.drop_of_length_le (by rw [aY.out];exact Nat.le_refl _),allI]at bf;have HG:=Lib.hid bf;have y0:=hf.cell 0;have y1:=hf.cell 1;have g0:=hf.frozen 0;have g1:=hf.frozen 1;have HR:=Lib.hid ((hl'.keep (ag.setCell (X':=fun b=>(Y b∨w.heap.size≤b)∧b≠w.heap.size) (p:=⟨w.heap.size,0,none⟩) (.int .i64 0) (fun b h=>h.2) (fun _ h _=>h))).keep (ag.setCell (X':=fun b=>Y b∨w.heap.size≤b) (p:=⟨w.heap.size,1,none⟩) (.int .i64 0) (fun b h=>h.2) (fun _ h _=>h.1)));have HB:=Lib.hid hb;clear bf hl hl' hf hb;go_wp2_with fail;rw [HG.out];exact bodyPost_ret (v:=.tuple #[.slice A' n' c',.agg #[.int .i64 0,.int .i64 0]]) (by simp [results,Tryz.results46,go_sem,y0,y1]) rfl ⟨⟨A',n',c',rfl,HR.out⟩,(HB.out.setCell (by simp) _).setCell (by simp) _⟩
theorem C3 {w:World} {X:Nat→Prop} {A:Option Addr} {n k:Nat} {xs:List Value} (h:di w X 1 A n xs) (hk:k≤n):di w X 1 A k (xs.take k):=by
 refine⟨by rw [List.length_take,h.1];omega,fun h0=>?_⟩;obtain⟨b,off,e,hx,hl,hc⟩:=h.2 (by omega);refine⟨b,off,e,hx,hl,fun j u hu=>hc j u ?_⟩;rw [List.getElem?_take]at hu;split at hu;exact hu;cases hu
theorem C1 {w:World} {X:Nat→Prop} {b off n k:Nat} {xs:List Value} (h:di w X 1 (some ⟨b,off,none⟩) n xs) (hk:k≤n):di w X 1 (some ⟨b,off+k,none⟩) (n - k) (xs.drop k):=by
 refine⟨by rw [List.length_drop,h.1];omega,fun h0=>?_⟩;obtain⟨b',off',e,hx,hl,hc⟩:=h.2 (by omega);cases e;refine⟨b,off+k,rfl,hx,hl,fun j u hu=>?_⟩;rw [List.getElem?_drop]at hu;have:=hc _ u hu;rwa [← Nat.add_assoc]at this
theorem oB (E:List Int) (k:Nat):(runeCells E).drop k=runeCells (E.drop k):=by simp [runeCells]
theorem nZ (E:List Int) (k:Nat):(runeCells E).take k=runeCells (E.take k):=by simp [runeCells]
def Vo (lo M:Nat) (v:Value) (b:Nat):Prop:=lo≤b∧b≠M∧v.ownBlock≠some b
structure AD (w:World) (M:Nat) (s8:Value) (done:List Int) (nd:Nat) (b9 o9 nz:Nat) (rest:List Int) (st pt:Int) (wr:World):Prop where
  own:wr.ownsRow w.heap.size 21 1 s8 nd (runeCells done)
  rd:di wr (Vo w.heap.size M s8) 1 (some ⟨b9,o9,none⟩) nz (runeCells rest)
  out:ak wr M 146 #[.slice none 0 0,.int .i64 st,.int .i64 pt]
  r4:ak wr w.heap.size 146 #[.slice none 0 0,.int .i64 0,.int .i64 0]
  r5:ak wr (w.heap.size+1) 51 #[.int .i64 0,.int .i64 0]
  below:Below w.heap.size w wr
  dl:done.length=nd
  ml:w.heap.size+1<M
section
variable {w wr w' : World} {M nd b9 o9 nz : Nat} {s8 : Value} {done rest : List Int} {st pt : Int}
theorem AD.set (h:AD w M s8 done nd b9 o9 nz rest st pt wr) (i:Nat) (u:Value) {st' pt':Int} (he:(#[.slice none 0 0,.int .i64 st,.int .i64 pt]:Array Value).setIfInBounds i u = #[.slice none 0 0,.int .i64 st',.int .i64 pt']) :
    AD w M s8 done nd b9 o9 nz rest st' pt' (wr.setCell ⟨M,i,none⟩ u) :=
  ⟨gJ h.own h.out (by decide),h.rd.keep (ag.setCell u (fun b hb=>hb.2.1) (fun _ hb _=>hb)),by rw [← he];exact h.out.put i u,
    (by have:=h.ml;exact(Below.heap_setCell _ _ _ _ (by simp only;omega)).trans h.r4),(by have:=h.ml;exact(Below.heap_setCell _ _ _ _ (by simp only;omega)).trans h.r5),h.below.setCell (by have:=h.ml;simp only;omega) u,h.dl,h.ml⟩
theorem AD.push (h:AD w M s8 done nd b9 o9 nz rest st pt wr) {E:List Int} {m:Nat} {v:Value} (hE:E.length=m) (an:aS w.heap.size 21 1 s8 wr (nd+m) (runeCells done++runeCells E) v w') :
    AD w M v (done++E) (nd+m) b9 o9 nz rest st pt w' :=
  ⟨by rw [gW];exact an.own,
   h.rd.keep (ag.app an (fun b hb=>hb.2.2) (fun b hb hl=>⟨hb.1,hb.2.1,by
     rcases an.2.2 with e | e
     · rw [e];exact hb.2.2
     · rw [e];intro e2;injection e2 with e2;omega⟩)),
   bH h.out h.own (by decide) an,bH h.r4 h.own (by decide) an,bH h.r5 h.own (by decide) an,h.below.trans (an.below h.below.size h.own),by rw [List.length_append,h.dl,hE],h.ml⟩
end
end Go.Proofs.YtapechjebkjidaaGreatDoor
