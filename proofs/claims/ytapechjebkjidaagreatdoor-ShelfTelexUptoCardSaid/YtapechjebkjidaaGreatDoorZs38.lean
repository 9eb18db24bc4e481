/- ChainGoAll + ShTurn + ScanGo -/
import Derived.Test.YtapechjebkjidaaGreatDoorZs37
import Derived.Deep.RegionWith
import Derived.BigRegion
import Derived.Test.YtapechjebkjidaaGreatDoorZs31
import Derived.Test.YtapechjebkjidaaGreatDoorZs17
import Derived.Test.YtapechjebkjidaaGreatDoorZs5
import Derived.Test.YtapechjebkjidaaGreatDoorZs0
import Derived.Deep.DeepCutAuto
import Derived.Deep.CutBlock
import Derived.Test.YtapechjebkjidaaGreatDoorZs32
set_option maxHeartbeats 12800000
set_option maxRecDepth 100000
namespace Go.Proofs.YtapechjebkjidaaGreatDoor
open Go.RowKit
def qo (s:bl) (x:Int):Bool:=!s.only? || bk s.only x
def iG (s:bl) (pc out:List Int):List Int × (Int × Int) :=
  if pc = []then (out,(0,0))else if (allI 0 s.passes pc).2.1≠0 then ([],(allI 0 s.passes pc).2)else (out++(allI 0 s.passes pc).1,(0,0))
def nW (s:bl):List Int→List Int→List Int→List Int × (Int × Int)
  | [],pc,out=>iG s pc out
  | x::t,pc,out=>if qo s x=true then nW s t (pc++[x]) out else if (iG s pc out).2.1≠0 then ([],(iG s pc out).2)else nW s t [] ((iG s pc out).1++[x])
def LO (s:bl) (t:List Int):List Int × (Int × Int) :=
  if (cI s).1≠0 then ([],cI s)else if gw t≠0 then ([],(gw t,0))else if (nW s t [] []).2.1≠0 then ([],(nW s t [] []).2)else if 4000<(nW s t [] []).1.length then ([],(4,(s.passes.length:Int)))else ((nW s t [] []).1,(0,0))
theorem GA {s:bl} {x:Int} {t pc out:List Int} (h:qo s x=true):nW s (x::t) pc out=nW s t (pc++[x]) out:=by rw [nW,if_pos h]
theorem tM (s:bl) (out:List Int):iG s [] out=(out,(0,0)):=by rw [iG,if_pos rfl]
theorem Dc {s:bl} {pc out x:List Int} {f:Int} (hp:pc ≠ []) (h:allI 0 s.passes pc=(x,(0,f))):iG s pc out=(out++x,(0,0)):=by
 rw [iG,if_neg hp,h,if_neg (fun h=>h rfl)]
theorem zM {s:bl} {pc out x:List Int} {e f:Int} (hp:pc ≠ []) (h:allI 0 s.passes pc=(x,(e,f))) (he:e≠0):iG s pc out=([],(e,f)):=by
 rw [iG,if_neg hp,h,if_pos he]
theorem Ir {s:bl} {x:Int} {t pc out o2:List Int} (h:qo s x=false) (hf:iG s pc out=(o2,(0,0))):nW s (x::t) pc out=nW s t [] (o2++[x]):=by
 rw [nW,if_neg (by rw [h];decide),hf,if_neg (fun h=>h rfl)]
theorem Qt {s:bl} {t pc out:List Int} {e f:Int} (h:∀ x t',t=x::t'→qo s x=false) (hf:iG s pc out=([],(e,f))) (he:e≠0):nW s t pc out=([],(e,f)):=by
 cases t with
 | nil=>exact hf
 | cons x t=>rw [nW,if_neg (by rw [h x t rfl];decide),hf,if_pos he]
theorem BS {s:bl} (h:(cI s).1=0) (ho:s.only? = true):aJ s.only:=by
 unfold cI at h;by_cases hz:bV s.only=0;exact oZ hz;rw [if_pos ⟨ho,hz⟩]at h;exact absurd h hz
theorem uK (b o n c:Nat) (l:List Int) (w:World) (hn:n≤1000000) (hl:uD w w.heap.size (some ⟨b,o,none⟩) n l) :
    Calls Tryz.prog 47 #[.slice (some ⟨b,o,none⟩) n c] w fun e w'=>(∃ v,e=.returned v∧w'.ownsRow w.heap.size 21 1 v n (runeCells l))∧Below w.heap.size w w':=by
 obtain⟨i0,hi,z0,z1,z2⟩:=info_parts Tryz.info21;have hba:=(Below.refl w.heap.size w).alloc (Nat.le_refl _) (.cells #[] 21);have ON:=Lib.hid hba;have Xp:=Lib.hid (tj w 21 1 w.heap.size w.heap.size rfl (Nat.le_refl _));have HL:=Lib.hid (Rd.below hl hba);have hnil:∀ W:World,(binOp .eql 29 (.slice (some ⟨b,o,none⟩) n c) (.slice none 0 0)).run Tryz.prog W=.ok (.bool false) W:=fun _=>(by kernel_rfl);clear hba hl;go_enter Tryz.func47,Tryz.ntmps47;go_wp2_with (at_builtin;refine ai _ rfl (.tmp 5) (.tmp 6) 29 rfl w.heap.size 21 i0 _ 1 4 Tryz.underlying29 hi z0 z1 z2 rfl (by decide) _ _ _ rfl Xp.out _ (some ⟨b,o,none⟩) n c (runeCells l) rfl HL.out (bu _) (by simp only [maxLen];omega) (by omega) (by simp) ?_);intro v1 w1 an;have HO:=Lib.hid (show w1.ownsRow w.heap.size 21 1 v1 n (runeCells l) by have:=an.own;simpa using this);have HB:=Lib.hid (ON.out.trans (an.below (by simp) Xp.out));clear an;go_wp2_with fail;go_ret;exact⟨⟨_,rfl,HO.out⟩,HB.out⟩
end Go.Proofs.YtapechjebkjidaaGreatDoor
namespace Go.Proofs.YtapechjebkjidaaGreatDoor
open Go.RowKit
def FD (lo:Nat) (w':World) (o:List Int × (Int × Int)) (e:Ending):Prop :=
  ∃ (A:Option Addr) (n c:Nat),e=.returned (.tuple #[.slice A n c,.agg #[.int .i64 o.2.1,.int .i64 o.2.2]])∧di w' (fun b=>lo≤b) 1 A n (runeCells o.1)
structure Bf (w:World) (cs:Array Value) (s8:Value) (out:List Int) (no:Nat) (wr:World):Prop where
  own:wr.ownsRow w.heap.size 21 1 s8 no (runeCells out)
  len:out.length=no
  scr:ak wr w.heap.size 47 cs
  fau:ak wr (w.heap.size+1) 51 #[.int .i64 0,.int .i64 0]
  below:Below w.heap.size w wr
theorem Bf.go {w wr w':World} {cs:Array Value} {s8:Value} {out:List Int} {no:Nat} (h:Bf w cs s8 out no wr) (hb:Below wr.heap.size wr w'):Bf w cs s8 out no w' :=
  ⟨cS h.own hb,h.len,ak.below h.scr hb h.scr.lt,ak.below h.fau hb h.fau.lt,h.below.trans (hb.mono h.below.size)⟩
theorem Bf.push {w wr w':World} {cs:Array Value} {s8 v:Value} {out E:List Int} {no m:Nat} (h:Bf w cs s8 out no wr) (hE:E.length=m) (an:aS w.heap.size 21 1 s8 wr (no+m) (runeCells out++runeCells E) v w'):Bf w cs v (out++E) (no+m) w' :=
  ⟨by rw [gW];exact an.own,by rw [List.length_append,h.len,hE],bH h.scr h.own (by decide) an,bH h.fau h.own (by decide) an,h.below.trans (an.below h.below.size h.own)⟩
def Vi (w:World) (s:bl) (t:List Int) (cs:Array Value) (nt:Nat) (s8 s9:Value) (wr:World):Prop :=
  ∃ (at_ no:Nat) (out:List Int),at_≤nt∧s9=.int .i64 at_∧no≤4001*at_∧nW s t [] [] = nW s (t.drop at_) [] out∧Bf w cs s8 out no wr
def XZ (w1:World) (s:bl) (t out:List Int) (at_ nt:Nat) (i:Value) (wr:World):Prop :=
  ∃ j:Nat,at_+j≤nt∧i=.int .i64 (at_+j:Nat)∧nW s (t.drop at_) [] out=nW s (t.drop (at_+j)) ((t.drop at_).take j) out∧Below w1.heap.size w1 wr
theorem Pt {t:List Int} {at_ j:Nat} {x:Int} (h:t[at_+j]? = some x):(t.drop at_).take j++[x] =(t.drop at_).take (j+1):=by
 rw [List.take_add_one,List.getElem?_drop,h];rfl
theorem La {t:List Int} {at_ j nt:Nat} (h:at_+j≤nt) (ht:t.length=nt):((t.drop at_).take j).length=j:=by rw [List.length_take,List.length_drop];omega
theorem OC (X:Nat→Prop) (s:bl) (t:List Int) (A1 A2 At:Option Addr) (n1 c1 n2 c2 nt ct:Nat) (w:World) (hs:jL w X s A1 n1 A2 n2) (hnc:nt≤ct) (hnt:nt≤maxLen) (ht:uD w w.heap.size At nt t) :
    Calls Tryz.prog 35 #[.agg #[.bool s.only?,.slice A1 n1 c1,.slice A2 n2 c2],.slice At nt ct] w fun e w'=>FD w.heap.size w' (LO s t) e∧Below w.heap.size w w':=by
 obtain⟨i0,hi,z0,z1,z2⟩:=info_parts Tryz.info21;have htl:=ht.len;have hb0:=((Below.refl w.heap.size w).alloc (Nat.le_refl _) (.cells #[.bool s.only?,.slice A1 n1 c1,.slice A2 n2 c2] 47)).alloc (by simp) (.cells #[.int .i64 0,.int .i64 0] 51);have IU:=Lib.hid (ak.alloc (ak.new w 47 #[.bool s.only?,.slice A1 n1 c1,.slice A2 n2 c2]) (.cells #[.int .i64 0,.int .i64 0] 51));have MH:=Lib.hid (show ak ((w.alloc (.cells #[.bool s.only?,.slice A1 n1 c1,.slice A2 n2 c2] 47)).alloc (.cells #[.int .i64 0,.int .i64 0] 51)) (w.heap.size+1) 51 #[.int .i64 0,.int .i64 0] by
  have:=ak.new (w.alloc (.cells #[.bool s.only?,.slice A1 n1 c1,.slice A2 n2 c2] 47)) 51 #[.int .i64 0,.int .i64 0];simpa using this)
 have ek:=Lib.hid hb0;have YX:=Lib.hid (fun(W:World) (hb:Below w.heap.size w W)=>show jL W X s A1 n1 A2 n2 from hs.keep (ag.any hb));have Ft:=Lib.hid (fun(W:World) (hb:Below w.heap.size w W)=>show uD W W.heap.size At nt t from(Rd.below ht hb).more hb.size);have HTW:=Lib.hid ht;have uH:=Lib.hid (show s.passes.length=n2 from hs.pas.len);have hm2:=hs.m2;clear hb0 hs ht;go_enter Tryz.func35,Tryz.ntmps35;go_upto_region 1 with fail;generalize (w.alloc (.cells #[.bool s.only?,.slice A1 n1 c1,.slice A2 n2 c2] 47)).alloc (.cells #[.int .i64 0,.int .i64 0] 51)=W0 at *;have HW:=Lib.hid (Ep X s A1 A2 n1 c1 n2 c2 W0 (YX.out W0 ek.out));have x0:W0.cell? ⟨w.heap.size,0,none⟩=some (.bool s.only?):=IU.out.cell 0;have x1:W0.cell? ⟨w.heap.size,1,none⟩=some (.slice A1 n1 c1):=IU.out.cell 1;have x2:W0.cell? ⟨w.heap.size,2,none⟩=some (.slice A2 n2 c2):=IU.out.cell 2;go_wp2_with fail;refine HW.out.mono ?_;rintro e w1 ⟨rfl,aT⟩;have Ls:=Lib.hid (ak.below IU.out aT IU.out.lt);have ME:=Lib.hid (ak.below MH.out aT MH.out.lt);have bT:=Lib.hid (ek.out.trans (aT.mono ek.out.size));clear aT HW IU MH ek x0 x1 x2;obtain⟨r1,r2,hR⟩:∃ r1 r2,cI s=(r1,r2):=⟨_,_,rfl⟩;have vT:=Lib.hid (fun(h:r1=0) (ho:s.only? = true)=>BS (s:=s) (by rw [hR];exact h) ho);have Ve:=Lib.hid (show LO s t=if r1≠0 then ([],(r1,r2))else if gw t≠0 then ([],(gw t,0))else if (nW s t [] []).2.1≠0 then ([],(nW s t [] []).2)else if 4000<(nW s t [] []).1.length then ([],(4,(s.passes.length:Int)))else ((nW s t [] []).1,(0,0)) by unfold LO;rw [hR]);rw [hR];dsimp only;clear hR;have hw1:=ME.out.lt;have KQ:=Lib.hid (Ls.out.alloc (.cells #[.int .i64 r1,.int .i64 r2] 51))
 have Od:=Lib.hid (ME.out.alloc (.cells #[.int .i64 r1,.int .i64 r2] 51));have HQ2:=Lib.hid (ak.new w1 51 #[.int .i64 r1,.int .i64 r2]);have aW:=Lib.hid (bT.out.alloc bT.out.size (.cells #[.int .i64 r1,.int .i64 r2] 51));go_upto_region 2 with fail;clear Ls ME bT;generalize hW2:w1.alloc (.cells #[.int .i64 r1,.int .i64 r2] 51)=W2 at *;clear hW2;have z0':=HQ2.out.cell 0;have z1':=HQ2.out.cell 1;by_cases hz:r1=0
 ·subst hz;have Qj:=Lib.hid (Ve.out.trans (if_neg (fun h=>h rfl)));have Yc:=Lib.hid (xO At nt ct t W2 hnt (Ft.out W2 aW.out));go_wp2_with fail;refine Yc.out.mono ?_;rintro e w3 ⟨rfl,bQ⟩;have O4:=Lib.hid (ak.below KQ.out bQ KQ.out.lt);have LG:=Lib.hid (ak.below Od.out bQ Od.out.lt);have bW:=Lib.hid (aW.out.trans (bQ.mono aW.out.size));clear bQ Yc KQ Od aW HQ2 Ve z0' z1';obtain⟨tp,Ks⟩:∃ tp,gw t=tp:=⟨_,rfl⟩;have HTS:=Lib.hid (fun(h:tp=0)=>ux (t:=t) (by rw [Ks];exact h));rw [Ks]at Qj ⊢;clear Ks;by_cases hz:tp=0
  ·subst hz;have PS:=Lib.hid (Qj.out.trans (if_neg (fun h=>h rfl)));have ahs:nt≤4000:=(by have:=HTS.out rfl;omega);generalize hcs:(#[.bool s.only?,.slice A1 n1 c1,.slice A2 n2 c2]:Array Value)=cs at *;have FP:=Lib.hid (show cs[0]? = some (.bool s.only?)∧cs[1]? = some (.slice A1 n1 c1)∧cs[2]? = some (.slice A2 n2 c2) by subst hcs;exact⟨rfl,rfl,rfl⟩);have XU:=Lib.hid (show Bf w cs (.slice none 0 0) [] 0 w3 from⟨World.ownsRow_nil _ _ _ _,rfl,O4.out,LG.out,bW.out⟩);clear Qj hcs O4 LG bW;go_wp2_with fail;go_loopw [8,9] (Vi w s t cs nt) (fun _ s9 _=>nt - (intOf s9).toNat);(case atStart=>exact⟨0,0,[],Nat.zero_le _,rfl,Nat.le_refl _,rfl,XU.out⟩);clear XU;obtain⟨at_,no,out,lz,rfl,hno,bf,hst⟩:=hrel;have fW:=Lib.hid hst;have fh:=Lib.hid bf;obtain⟨Av,cv,rfl,_⟩:=aH hst.own;have kC:=hst.below;have hzw:=kC.size;clear bf;by_cases hlt:at_<nt
   ·obtain⟨tb,OY,rfl,htb,_⟩:=HTW.out.at hlt;have ae1:decide ((at_:Int)<(nt:Int))=true:=decide_eq_true (by omega);clear hst;go_wp2_with fail;go_loopw [10] (XZ wr s t out at_ nt) (fun i _=>nt - (intOf i).toNat);(case atStart=>exact⟨0,by omega,rfl,by simp,Below.refl _ _⟩);obtain⟨j,hj,rfl,hgi,hbi⟩:=hrel;have O6:=Lib.hid (fh.out.trans hgi);have YI:=Lib.hid hgi;have Rt:=Lib.hid (fW.out.go hbi);have ZA:=Lib.hid hbi;have s0:wr.cell? ⟨w.heap.size,0,none⟩=some (.bool s.only?):=(Rt.out.scr.cell 0).trans FP.out.1;have s1:wr.cell? ⟨w.heap.size,1,none⟩=some (.slice A1 n1 c1):=(Rt.out.scr.cell 1).trans FP.out.2.1;obtain⟨en,YF⟩:∃ en,at_+j=en:=⟨_,rfl⟩;have N9:=Lib.hid (La hj htl);rw [YF]at hj O6 YI ⊢;clear hgi hbi;by_cases hle:en<nt
    ·obtain⟨x,hx⟩:∃ z,t[en]? = some z:=⟨_,List.getElem?_eq_getElem (by omega)⟩;obtain⟨b',o',eA,_,cx⟩:=HTW.out.at hle;cases eA;rw [show t.getD en 0=x by simp [List.getD,hx]]at cx;have dx:wr.cell? ⟨tb,OY+en,none⟩=some (.int .i32 x):=(Rt.out.below.cell (p:=⟨tb,OY+en,none⟩) htb).trans cx;have aba:decide ((en:Int)<(nt:Int))=true:=decide_eq_true (by omega);have HDX:=Lib.hid (dN hx);have HAS:=Lib.hid (Pt (t:=t) (at_:=at_) (j:=j) (by rw [YF];exact hx));rw [HDX.out]at O6 YI;clear hx cx;cases ho:s.only?
     ·have O3:=Lib.hid (show qo s x=true by unfold qo;rw [ho];rfl);rw [ho]at s0;have V7:=Lib.hid (YI.out.trans (GA O3.out));rw [HAS.out]at V7;clear ho;go_upto_region 11 with fail;go_quiet (fail);go_wp2_with fail;exact⟨⟨j+1,by omega,by go_num,by rw [← Nat.add_assoc,YF];exact V7.out,below_drewN ZA.out nq⟩,by simp [intOf];omega⟩
     have Yi:=Lib.hid (fun(W:World) (hb:Below w.heap.size w W)=>wV A1 n1 c1 s.only x W (vT.out (by trivial) ho) (di.of (YX.out W hb).only));rw [ho]at s0;have O3:=Lib.hid (show qo s x=bk s.only x by unfold qo;rw [ho];rfl);clear ho;go_upto_region 11 with fail;go_region_with (go_at_call 45;refine(Yi.out _ (aE Rt.out.below)).mono ?_;rintro e wh ⟨rfl,hbh⟩)
     all_goals
       have HBH:=Lib.hid ((aE (Below.refl wr.heap.size wr)).trans hbh)
       clear hbh
       cases hh:bk s.only x
       · have HMF:=Lib.hid (O3.out.trans hh)
         have Fh:=Lib.hid (Rt.out.go HBH.out)
         clear hh
         by_cases hj0:j=0
         · have hgt:decide ((at_:Int)<(en:Int))=false:=decide_eq_false (by omega)
           have Kn:=(Below.refl wh.heap.size wh).alloc (Nat.le_refl _) (.cells #[.int .i32 x] 21)
           have jq:=Lib.hid (Fh.out.go Kn)
           have Rf:=Lib.hid (Rd.new wh 21 1 1 [.int .i32 x] rfl)
           have dx2:wh.cell? ⟨tb,OY+en,none⟩=some (.int .i32 x):=(Fh.out.below.cell (p:=⟨tb,OY+en,none⟩) htb).trans (((Rt.out.below.cell (p:=⟨tb,OY+en,none⟩) htb).symm).trans dx)
           clear Kn
           go_wp2_with (at_builtin;refine ai _ rfl (.tmp 73) (.tmp 78) 29 rfl w.heap.size 21 i0 _ 1 4 Tryz.underlying29 hi z0 z1 z2 rfl (by decide) _ (no) _ rfl jq.out.own _ (some ⟨wh.heap.size,0,none⟩) 1 1 (runeCells [x]) rfl Rf.out (bu _) (by simp only [maxLen];omega) (by omega) jq.out.below.size ?_)
           intro vf wf an
           have ld:=Lib.hid (jq.out.push (E:=[x]) rfl an)
           obtain⟨Af,cf,rfl,_⟩:=aH ld.out.own
           have y8:=Lib.hid (show nW s t [] [] = nW s (t.drop (en+1)) [] (out++[x]) from O6.out.trans (Ir HMF.out (by rw [show(t.drop at_).take j = [] by rw [hj0];rfl];exact tM s out)))
           clear an jq Rf
           go_wp2_with fail
           exact⟨⟨en+1,no+1,out++[x],by omega,by go_num,by omega,y8.out,ld.out⟩,by simp [intOf];omega⟩
         · have Tx:0<j:=by omega
           have hne:¬ ct=at_:=by omega
           have aai:en - at_=j:=by omega
           have BG:=Lib.hid (di.I4 (X:=fun _=>True) (Ft.out _ Fh.out.below) (Nat.le_refl _) (fun _ _=>trivial))
           have O2:=C3 (C1 BG.out (show at_≤nt by omega)) (show j≤nt - at_ by omega)
           rw [oB,nZ]at O2
           have yG:=Lib.hid (uK tb (OY+at_) j (ct - at_) ((t.drop at_).take j) _ (by omega) O2.of)
           have hgt:decide ((at_:Int)<(en:Int))=true:=decide_eq_true (by omega)
           clear O2 BG
           go_wp2_with fail
           refine yG.out.mono ?_
           rintro e wc ⟨⟨v,rfl,hown⟩,hbc⟩
           obtain⟨Ac,cc,rfl,_⟩:=aH hown
           have CQ:=Lib.hid (Fh.out.go hbc)
           have vw:=Lib.hid (zY X (fun b=>w.heap.size≤b) s w.heap.size A1 A2 Ac n1 n2 c2 j cc ((t.drop at_).take j) wc (YX.out wc CQ.out.below) ((CQ.out.scr.cell 2).trans FP.out.2.2) CQ.out.scr.lt (by rw [N9.out];omega) (di.cj hown (fun b hb=>Nat.le_trans Fh.out.below.size (bG hown hb).1)))
           have QU:=Lib.hid (yu s.passes 0 ((t.drop at_).take j) (by rw [N9.out];omega))
           clear hown hbc yG
           go_wp2_with fail
           refine vw.out.mono ?_
           rintro e wd ⟨⟨A4,n4,c4,rfl,NI⟩,hb4⟩
           have hzc:=CQ.out.below.size
           obtain⟨y,f1,f2,hall⟩:∃ y f1 f2,allI 0 s.passes ((t.drop at_).take j)=(y,(f1,f2)):=⟨_,_,_,rfl⟩
           have LD:=Lib.hid hall
           rw [hall]at NI QU ⊢
           dsimp only at NI QU ⊢
           have hba:=(Below.refl wd.heap.size wd).alloc (Nat.le_refl _) (.cells #[.int .i64 f1,.int .i64 f2] 51)
           have yJ:=Lib.hid ((CQ.out.go hb4).go hba)
           have Fm:=Lib.hid (Rd.below NI.of hba)
           have U7:=Lib.hid (show y.length=n4 by have:=NI.1;rw [runeCells_length]at this;omega)
           have JY:=Lib.hid (ak.new wd 51 #[.int .i64 f1,.int .i64 f2])
           have VJ:w.heap.size+1<wd.heap.size:=Nat.lt_of_lt_of_le CQ.out.fau.lt hb4.size
           have Et:=Lib.hid (show(t.drop at_).take j ≠ [] by intro e;have:=N9.out;rw [e]at this;simp at this;omega)
           clear NI hba hb4 vw hall
           go_upto_region 15 with fail
           generalize hWD:wd.alloc (.cells #[.int .i64 f1,.int .i64 f2] 51)=WD at *
           have ZN:wd.heap.size<WD.heap.size:=JY.out.lt
           clear hWD
           have q0:=JY.out.cell 0
           have q1:=JY.out.cell 1
           by_cases hf:f1=0
           · subst hf
             have IZ:n4≤4000:=by rw [← U7.out];exact QU.out
             have nS:=Lib.hid (Dc Et.out LD.out (out:=out))
             go_wp2_with (at_builtin;refine ai _ rfl (.tmp 66) (.tmp 67) 29 rfl w.heap.size 21 i0 _ 1 4 Tryz.underlying29 hi z0 z1 z2 rfl (by decide) _ no _ rfl yJ.out.own _ A4 n4 c4 (runeCells y) rfl Fm.out (bu _) (by simp only [maxLen];omega) (by omega) yJ.out.below.size ?_)
             intro ve we an
             have zv:=Lib.hid (yJ.out.push U7.out an)
             obtain⟨Ae,ce,rfl,_⟩:=aH zv.out.own
             clear an yJ CQ Fh LD Et q0 q1 JY
             have Kn:=(Below.refl we.heap.size we).alloc (Nat.le_refl _) (.cells #[.int .i32 x] 21)
             have jq:=Lib.hid (zv.out.go Kn)
             have Rf:=Lib.hid (Rd.new we 21 1 1 [.int .i32 x] rfl)
             have dx2:we.cell? ⟨tb,OY+en,none⟩=some (.int .i32 x):=(zv.out.below.cell (p:=⟨tb,OY+en,none⟩) htb).trans (((Rt.out.below.cell (p:=⟨tb,OY+en,none⟩) htb).symm).trans dx)
             clear Kn
             go_wp2_with (at_builtin;refine ai _ rfl (.tmp 73) (.tmp 78) 29 rfl w.heap.size 21 i0 _ 1 4 Tryz.underlying29 hi z0 z1 z2 rfl (by decide) _ ((no+n4)) _ rfl jq.out.own _ (some ⟨we.heap.size,0,none⟩) 1 1 (runeCells [x]) rfl Rf.out (bu _) (by simp only [maxLen];omega) (by omega) jq.out.below.size ?_)
             intro vf wf an
             have ld:=Lib.hid (jq.out.push (E:=[x]) rfl an)
             obtain⟨Af,cf,rfl,_⟩:=aH ld.out.own
             have y8:=Lib.hid (show nW s t [] [] = nW s (t.drop (en+1)) [] ((out++y)++[x]) from O6.out.trans (Ir HMF.out nS.out))
             clear an jq Rf
             go_wp2_with fail
             exact⟨⟨en+1,(no+n4)+1,(out++y)++[x],by omega,by go_num,by omega,y8.out,ld.out⟩,by simp [intOf];omega⟩
           · have nS:=Lib.hid (zM Et.out LD.out hf (out:=out))
             have HG:=Lib.hid (show LO s t=([],(f1,f2)) by rw [PS.out,O6.out,Qt (s:=s) (t:=x::t.drop (en+1)) (fun x' t' e=>by cases e;exact HMF.out) nS.out hf,if_pos hf])
             have y0:=yJ.out.fau.cell 0
             have y1:=yJ.out.fau.cell 1
             have g0:=yJ.out.fau.frozen 0
             have g1:=yJ.out.fau.frozen 1
             have NR:¬ w.heap.size+1=wd.heap.size:=by omega
             have Na:¬ wd.heap.size=w.heap.size+1:=by omega
             go_upto_region 16 with fail
             go_region
             all_goals
               go_wp2_with fail
               rw [HG.out]
               exact bodyPost_ret (v:=.tuple #[.slice none 0 0,.agg #[.int .i64 f1,.int .i64 f2]]) (by simp [results,Tryz.results35,go_sem,y0,y1]) rfl ⟨⟨none,0,0,rfl,⟨rfl,fun h=>absurd h (Nat.lt_irrefl 0)⟩⟩,((yJ.out.below.setCell (by simp) _).setCell (by simp) _).drew⟩
       · have V7:=Lib.hid (YI.out.trans (GA (O3.out.trans hh)))
         rw [HAS.out]at V7
         clear hh
         go_wp2_with fail
         exact⟨⟨j+1,by omega,by go_num,by rw [← Nat.add_assoc,YF];exact V7.out,ZA.out.trans (HBH.out.mono ZA.out.size)⟩,by simp [intOf];omega⟩
    obtain rfl:en=nt:=(by omega);have aba:decide ((en:Int)<(en:Int))=false:=decide_eq_false (by omega);go_upto_region 11 with fail;go_quiet (fail);have Fh:=Lib.hid (show Bf w cs (.slice Av no cv) out no (wr.drewN nq) from Rt.out.go (below_drewN (Below.refl _ _) nq));have Tx:0<j:=(by omega);generalize wr.drewN nq=wh at *;have hne:¬ ct=at_:=(by omega);have aai:en - at_=j:=(by omega);have BG:=Lib.hid (di.I4 (X:=fun _=>True) (Ft.out _ Fh.out.below) (Nat.le_refl _) (fun _ _=>trivial));have O2:=C3 (C1 BG.out (show at_≤en by omega)) (show j≤en - at_ by omega);rw [oB,nZ]at O2;have yG:=Lib.hid (uK tb (OY+at_) j (ct - at_) ((t.drop at_).take j) _ (by omega) O2.of);have hgt:decide ((at_:Int)<(en:Int))=true:=decide_eq_true (by omega);clear O2 BG;go_wp2_with fail;refine yG.out.mono ?_;rintro e wc ⟨⟨v,rfl,hown⟩,hbc⟩;obtain⟨Ac,cc,rfl,_⟩:=aH hown;have CQ:=Lib.hid (Fh.out.go hbc);have vw:=Lib.hid (zY X (fun b=>w.heap.size≤b) s w.heap.size A1 A2 Ac n1 n2 c2 j cc ((t.drop at_).take j) wc (YX.out wc CQ.out.below) ((CQ.out.scr.cell 2).trans FP.out.2.2) CQ.out.scr.lt (by rw [N9.out];omega) (di.cj hown (fun b hb=>Nat.le_trans Fh.out.below.size (bG hown hb).1)));have QU:=Lib.hid (yu s.passes 0 ((t.drop at_).take j) (by rw [N9.out];omega));clear hown hbc yG;go_wp2_with fail;refine vw.out.mono ?_;rintro e wd ⟨⟨A4,n4,c4,rfl,NI⟩,hb4⟩;have hzc:=CQ.out.below.size;obtain⟨y,f1,f2,hall⟩:∃ y f1 f2,allI 0 s.passes ((t.drop at_).take j)=(y,(f1,f2)):=⟨_,_,_,rfl⟩;have LD:=Lib.hid hall;rw [hall]at NI QU ⊢;dsimp only at NI QU ⊢;have hba:=(Below.refl wd.heap.size wd).alloc (Nat.le_refl _) (.cells #[.int .i64 f1,.int .i64 f2] 51);have yJ:=Lib.hid ((CQ.out.go hb4).go hba);have Fm:=Lib.hid (Rd.below NI.of hba)
    have U7:=Lib.hid (show y.length=n4 by have:=NI.1;rw [runeCells_length]at this;omega);have JY:=Lib.hid (ak.new wd 51 #[.int .i64 f1,.int .i64 f2]);have VJ:w.heap.size+1<wd.heap.size:=Nat.lt_of_lt_of_le CQ.out.fau.lt hb4.size;have Et:=Lib.hid (show(t.drop at_).take j ≠ [] by intro e;have:=N9.out;rw [e]at this;simp at this;omega);clear NI hba hb4 vw hall;go_upto_region 15 with fail;generalize hWD:wd.alloc (.cells #[.int .i64 f1,.int .i64 f2] 51)=WD at *;have ZN:wd.heap.size<WD.heap.size:=JY.out.lt;clear hWD;have q0:=JY.out.cell 0;have q1:=JY.out.cell 1;by_cases hf:f1=0
    ·subst hf;have IZ:n4≤4000:=(by rw [← U7.out];exact QU.out);have nS:=Lib.hid (Dc Et.out LD.out (out:=out));go_wp2_with (at_builtin;refine ai _ rfl (.tmp 66) (.tmp 67) 29 rfl w.heap.size 21 i0 _ 1 4 Tryz.underlying29 hi z0 z1 z2 rfl (by decide) _ no _ rfl yJ.out.own _ A4 n4 c4 (runeCells y) rfl Fm.out (bu _) (by simp only [maxLen];omega) (by omega) yJ.out.below.size ?_);intro ve we an;have zv:=Lib.hid (yJ.out.push U7.out an);obtain⟨Ae,ce,rfl,_⟩:=aH zv.out.own;clear an yJ CQ Fh LD Et q0 q1 JY;have rL:nW s t [] [] = nW s (t.drop en) [] (out++y):=by
      rw [O6.out,List.drop_of_length_le (by omega),nW,nW,nS.out,tM]
     have y8:=Lib.hid rL;clear rL;go_wp2_with fail;exact⟨⟨en,no+n4,out++y,Nat.le_refl _,rfl,by omega,y8.out,zv.out⟩,by simp [intOf];omega⟩
    have nS:=Lib.hid (zM Et.out LD.out hf (out:=out));have HG:=Lib.hid (show LO s t=([],(f1,f2)) by rw [PS.out,O6.out,List.drop_of_length_le (by omega),nW,nS.out,if_pos hf]);have y0:=yJ.out.fau.cell 0;have y1:=yJ.out.fau.cell 1;have g0:=yJ.out.fau.frozen 0;have g1:=yJ.out.fau.frozen 1;have NR:¬ w.heap.size+1=wd.heap.size:=(by omega);have Na:¬ wd.heap.size=w.heap.size+1:=(by omega);go_upto_region 16 with fail;go_region
    all_goals
      go_wp2_with fail
      rw [HG.out]
      exact bodyPost_ret (v:=.tuple #[.slice none 0 0,.agg #[.int .i64 f1,.int .i64 f2]]) (by simp [results,Tryz.results35,go_sem,y0,y1]) rfl ⟨⟨none,0,0,rfl,⟨rfl,fun h=>absurd h (Nat.lt_irrefl 0)⟩⟩,((yJ.out.below.setCell (by simp) _).setCell (by simp) _).drew⟩
   obtain rfl:at_=nt:=(by omega);have HGF:=Lib.hid (show nW s t [] [] =(out,(0,0)) by rw [fh.out,List.drop_of_length_le (by omega),nW,tM]);have hlen:=fW.out.len;by_cases h4:4000<no
   ·have HG:=Lib.hid (show LO s t=([],(4,(n2:Int))) by rw [PS.out,HGF.out,if_neg (fun h=>h rfl),if_pos (by rw [hlen];exact h4),uH.out]);have d2:wr.cell? ⟨w.heap.size,2,none⟩=some (.slice A2 n2 c2):=(hst.scr.cell 2).trans FP.out.2.2;have y0:=hst.fau.cell 0;have y1:=hst.fau.cell 1;have g0:=hst.fau.frozen 0;have g1:=hst.fau.frozen 1;have hne:¬ w.heap.size=w.heap.size+1:=(by omega);clear hst;go_upto_region 23 with fail;go_region
    all_goals
      go_wp2_with fail
      rw [HG.out]
      exact bodyPost_ret (v:=.tuple #[.slice none 0 0,.agg #[.int .i64 4,.int .i64 n2]]) (by simp [results,Tryz.results35,go_sem,y0,y1]) rfl ⟨⟨none,0,0,rfl,⟨rfl,fun h=>absurd h (Nat.lt_irrefl 0)⟩⟩,((fW.out.below.setCell (by simp) _).setCell (by simp) _).drew⟩
   have HG:=Lib.hid (show LO s t=(out,(0,0)) by rw [PS.out,HGF.out,if_neg (fun h=>h rfl),if_neg (by rw [hlen];exact h4)]);have y0:=hst.fau.cell 0;have y1:=hst.fau.cell 1;have g0:=hst.fau.frozen 0;have g1:=hst.fau.frozen 1;have q1:=gJ (i:=0) (u:=.int .i64 0) hst.own hst.fau (by decide);have q2:=gJ (i:=1) (u:=.int .i64 0) q1 (hst.fau.put 0 _) (by decide);have sV:=Lib.hid (di.cj (X:=fun b=>w.heap.size≤b) q2 (fun b hb=>(bG q2 hb).1));clear hst q1 q2;go_wp2_with fail;rw [HG.out];exact bodyPost_ret (v:=.tuple #[.slice Av no cv,.agg #[.int .i64 0,.int .i64 0]]) (by simp [results,Tryz.results35,go_sem,y0,y1]) rfl ⟨⟨Av,no,cv,rfl,sV.out⟩,(fW.out.below.setCell (by simp) _).setCell (by simp) _⟩
  have HG:=Lib.hid (Qj.out.trans (if_pos hz));have y0:=LG.out.cell 0;have y1:=LG.out.cell 1;have g0:=LG.out.frozen 0;have g1:=LG.out.frozen 1;go_wp2_with fail;rw [HG.out];exact bodyPost_ret (v:=.tuple #[.slice none 0 0,.agg #[.int .i64 tp,.int .i64 0]]) (by simp [results,Tryz.results35,go_sem,y0,y1]) rfl ⟨⟨none,0,0,rfl,⟨rfl,fun h=>absurd h (Nat.lt_irrefl 0)⟩⟩,(bW.out.setCell (by simp) _).setCell (by simp) _⟩
 have HG:=Lib.hid (Ve.out.trans (if_pos hz));have y0:=Od.out.cell 0;have y1:=Od.out.cell 1;have g0:=Od.out.frozen 0;have g1:=Od.out.frozen 1;have NR:¬ w.heap.size+1=w1.heap.size:=(by omega);have Na:¬ w1.heap.size=w.heap.size+1:=(by omega);go_upto_region 3 with fail;go_region
 all_goals
   go_wp2_with fail
   rw [HG.out]
   exact bodyPost_ret (v:=.tuple #[.slice none 0 0,.agg #[.int .i64 r1,.int .i64 r2]]) (by simp [results,Tryz.results35,go_sem,y0,y1]) rfl ⟨⟨none,0,0,rfl,⟨rfl,fun h=>absurd h (Nat.lt_irrefl 0)⟩⟩,((aW.out.setCell (by simp) _).setCell (by simp) _).drew⟩
end Go.Proofs.YtapechjebkjidaaGreatDoor
namespace Go.Proofs.YtapechjebkjidaaGreatDoor
open Go.RowKit Go.Shelf
theorem dP.at2 {w:World} {X:Nat→Prop} {s:bl} {A1 A2:Option Addr} {n1 c1 n2 c2:Nat} (h:dP w X s [.bool s.only?,.slice A1 n1 c1,.slice A2 n2 c2]):jL w X s A1 n1 A2 n2:=by
 obtain⟨_,_,he,⟨_,_,_,rfl,q1,q2⟩,⟨_,_,_,rfl,q3,q4⟩⟩:=h;injection he with _ he;injection he with e1 he;injection he with e2 _;cases e1;cases e2;exact⟨q1,q3,q2,q4⟩
def iq (w:World) (out:List Int) (e:Ending) (w':World):Prop:=e=.returned (.tuple #[.string (pz out),.int .i64 0])∧Below w.heap.size w w'
theorem I3 (name:ByteArray) (back:Bool) (s:ByteArray) (hs:s.size≤100000) (sc:bl) (out:List Int) (hg:LO sc (ay s 0)=(out,(0,0))) (hr:out.all aK=true) (zF:out.length≤4000)
    (WM:∀ W:World,Calls Tryz.prog 34 #[.string name,.bool back] W (wC W sc)) (w:World) :
    Calls Tryz.prog 30 #[.string name,.bool back,.string s] w (iq w out):=by
 have CQ:=Lib.hid WM;have FQ:=cZ s;have GN:=Lib.hid (fun(W:World)=>qu s W (by omega));unfold Ih at GN;have Te:=Lib.hid zF;have Fg:=Lib.hid (fun(A:Option Addr) (n c:Nat) (W:World) (hn:n≤4000) (hl:uD W W.heap.size A n out)=>show Calls Tryz.prog 37 #[.slice A n c] W fun e w'=>e=.returned (.tuple #[.string (pz out),.int .i64 0])∧Below W.heap.size W w' by
  have h:=xb A n c out W (by omega) hl;rwa [IL hr]at h)
 have Ve:=Lib.hid hg;clear WM hg hr zF;generalize hL:ay s 0=L at *;have OI:L.length≤100000:=(by omega);clear hL FQ;go_enter Tryz.func30,Tryz.ntmps30;go_wp2_with fail;refine(CQ.out w).mono ?_;rintro e w1 ⟨⟨cs,rfl,hcs⟩,aT⟩;obtain⟨A1,n1,c1,A2,n2,c2,rfl⟩:=nD hcs;have aL:=aT.alloc aT.size (.cells #[.bool sc.only?,.slice A1 n1 c1,.slice A2 n2 c2] 47);have aW:=Lib.hid aL;have ld:=Lib.hid (ak.new w1 47 #[.bool sc.only?,.slice A1 n1 c1,.slice A2 n2 c2]);have qy:=Lib.hid (dP.at2 (hcs.keep (ag.below ((Below.refl w1.heap.size w1).alloc (Nat.le_refl _) (.cells #[.bool sc.only?,.slice A1 n1 c1,.slice A2 n2 c2] 47)) (X':=fun _=>True) (fun _ _ _=>trivial))));clear aT aL hcs CQ;go_upto_region 4 with fail;generalize w1.alloc (.cells #[.bool sc.only?,.slice A1 n1 c1,.slice A2 n2 c2] 47)=W2 at *;have s0:W2.cell? ⟨w1.heap.size,0,none⟩=some (.bool sc.only?):=ld.out.cell 0;have s1:W2.cell? ⟨w1.heap.size,1,none⟩=some (.slice A1 n1 c1):=ld.out.cell 1;have s2:W2.cell? ⟨w1.heap.size,2,none⟩=some (.slice A2 n2 c2):=ld.out.cell 2
 have HC:=Lib.hid (fun(W:World) (hb:Below W2.heap.size W2 W)=>show W.cell? ⟨w1.heap.size,0,none⟩=some (.bool sc.only?)∧W.cell? ⟨w1.heap.size,1,none⟩=some (.slice A1 n1 c1)∧W.cell? ⟨w1.heap.size,2,none⟩=some (.slice A2 n2 c2) from
   ⟨(ak.below ld.out hb ld.out.lt).cell 0,(ak.below ld.out hb ld.out.lt).cell 1,(ak.below ld.out hb ld.out.lt).cell 2⟩)
 have fh:=Lib.hid (fun(W:World) (hb:Below W2.heap.size W2 W) (At:Option Addr) (ct:Nat) (hct:L.length≤ct) (ht:uD W W.heap.size At L.length L)=>show Calls Tryz.prog 35 #[.agg #[.bool sc.only?,.slice A1 n1 c1,.slice A2 n2 c2],.slice At L.length ct] W fun e w'=>FD W.heap.size w' (out,(0,0)) e∧Below W.heap.size W w' by
  have h:=OC (fun _=>True) sc L A1 A2 At n1 c1 n2 c2 L.length ct W (qy.out.keep (ag.below hb (fun _ _ _=>trivial))) hct (by simp only [maxLen];omega) ht;rwa [Ve.out]at h)
 unfold FD at fh;go_cut [10,11] (fun XG Xx wx=>∃ (A:Option Addr) (n c G:Nat),XG=.slice A n c∧Xx=.pointer (some ⟨G,0,none⟩)∧uD wx wx.heap.size A n out∧ak wx G 51 #[.int .i64 0,.int .i64 0]∧Below W2.heap.size W2 wx);case first=>
  refine aB (S:=fun w'=>w'.cell? ⟨w1.heap.size,0,none⟩=some (.bool sc.only?)∧w'.cell? ⟨w1.heap.size,1,none⟩=some (.slice A1 n1 c1)∧w'.cell? ⟨w1.heap.size,2,none⟩=some (.slice A2 n2 c2)) [0] (by kernel_rfl) ⟨s0,s1,s2⟩ (fun bt=>?_);apply tt 0 22 rfl (by kernel_rfl) (fun _ _ _ h=>h) (by rfl) (by assumption)
  ·intro wq bR;(try dsimp only at bR);go_simp;(try with_reducible rfl)
  (try simp only [zp,za,z0,zs]);apply tp 1 23 rfl (by kernel_rfl) (fun _ _ _ h=>h) (by rfl)
  ·intro wq _;go_simp;(try with_reducible rfl)
  (try simp only [zp,za,z0,zs]);refine fS (i:=2) (j:=7) (o:=⟨some 24,_,_,_,_,_⟩) (o2:=⟨some 11,_,_,_,_,_⟩) (by kernel_rfl) rfl rfl (fun K hK=>?_) (fun K hK=>?_)
  ·go_simp;go_at_call 36;refine(GN.out W2.drew).mono ?_;rintro e va ⟨ua,rfl,SG,hda⟩;obtain⟨Da,ka,rfl,hka⟩:=aH SG;have Fb:=Lib.hid (show Below W2.heap.size W2 va from(aE (Below.refl W2.heap.size W2)).trans (hda.mono (aE (Below.refl W2.heap.size W2)).size));have YY:=Lib.hid (Rd.cj SG);clear SG hda;(try dsimp only);refine hK.out _ _ ?_ (fun bt=>?_);exact HC.out _ Fb.out;clear hK K;(try simp only [zp,za,z0,zs]);refine fS (i:=3) (j:=7) (o:=⟨some 25,_,_,_,_,_⟩) (o2:=⟨some 11,_,_,_,_,_⟩) (by kernel_rfl) rfl rfl (fun K hK=>?_) (fun K hK=>?_)
   ·go_simp;go_at_call 35;refine(fh.out va Fb.out Da ka hka YY.out).mono ?_;rintro e ga ⟨⟨Ba,ma,qa,rfl,tH⟩,hba⟩;have Oz:=Lib.hid (show Below W2.heap.size W2 ga from(Fb.out).trans (hba.mono (Fb.out).size));have Xf:=Lib.hid tH.of;clear tH hba;(try dsimp only);refine hK.out _ _ ?_ (fun bt=>?_);exact HC.out _ Oz.out;clear hK K;(try simp only [zp,za,z0,zs]);apply tp 4 21 rfl (by kernel_rfl) (fun _ _ _ h=>h) (by rfl)
    ·intro wq _;go_simp;(try with_reducible rfl)
    (try simp only [zp,za,z0,zs]);apply tp 5 26 rfl (by kernel_rfl) (fun _ _ _ h=>h) (by rfl)
    ·intro wq _;go_simp;(try with_reducible rfl)
    (try simp only [zp,za,z0,zs]);apply tp 6 27 rfl (by kernel_rfl) (fun _ _ _ h=>h) (by rfl)
    ·intro wq _;go_simp;(try with_reducible rfl)
    (try simp only [zp,za,z0,zs]);refine aF (i:=7) (o:=⟨some 11,_,_,_,_,_⟩) (by kernel_rfl) rfl (fun K hK=>?_);go_simp;(try dsimp only);refine hK.out _ _ ?_ (fun bt=>?_);exact HC.out _ (Oz.out.alloc Oz.out.size _);clear hK K;(try simp only [zp,za,z0,zs]);apply tp 8 10 rfl (by kernel_rfl) (fun _ _ _ h=>h) (by rfl)
    ·intro wq _;go_simp;(try with_reducible rfl)
    (try simp only [zp,za,z0,zs]);refine aD (i:=9) (by kernel_rfl) rfl (by kernel_rfl) (fun K hK=>?_);go_simp;(try dsimp only);refine hK.out _ _ ?_;clear hK K;refine aN (by kernel_rfl) ?_ _;go_simp;go_wp2_with fail;go_meet;exact⟨Ba,ma,qa,ga.heap.size,rfl,rfl,Xf.out.below ((Below.refl _ _).alloc (Nat.le_refl _) _) |>.more (by simp),ak.new _ _ _,Oz.out.alloc Oz.out.size _⟩
   go_simp;(try dsimp only);refine hK.out _ _ ?_ (fun bt=>?_);exact HC.out _ (Fb.out.alloc Fb.out.size _);clear hK K;(try simp only [zp,za,z0,zs]);refine aF (i:=3) (o:=⟨some 25,_,_,_,_,_⟩) (by kernel_rfl) rfl (fun K hK=>?_);have V2:=Lib.hid (ak.new va 51 #[.int .i64 0,.int .i64 0]);go_simp;go_at_call 35;refine(fh.out (va.alloc (.cells #[.int .i64 0,.int .i64 0] 51)) (Fb.out.alloc Fb.out.size _) Da ka hka (YY.out.below ((Below.refl _ _).alloc (Nat.le_refl _) _) |>.more (by simp))).mono ?_;rintro e ga ⟨⟨Ba,ma,qa,rfl,tH⟩,hba⟩;have Oz:=Lib.hid (show Below W2.heap.size W2 ga from((Fb.out.alloc Fb.out.size _)).trans (hba.mono ((Fb.out.alloc Fb.out.size _)).size));have Xf:=Lib.hid tH.of;have FH:=Lib.hid (V2.out.below hba V2.out.lt);clear tH hba;(try dsimp only);refine hK.out _ _ ?_ (fun bt=>?_);exact HC.out _ Oz.out;clear hK K;(try simp only [zp,za,z0,zs]);apply tp 4 21 rfl (by kernel_rfl) (fun _ _ _ h=>h) (by rfl)
   ·intro wq _;go_simp;(try with_reducible rfl)
   (try simp only [zp,za,z0,zs]);apply tp 5 26 rfl (by kernel_rfl) (fun _ _ _ h=>h) (by rfl)
   ·intro wq _;go_simp;(try with_reducible rfl)
   (try simp only [zp,za,z0,zs]);apply tp 6 27 rfl (by kernel_rfl) (fun _ _ _ h=>h) (by rfl)
   ·intro wq _;go_simp;(try with_reducible rfl)
   (try simp only [zp,za,z0,zs]);apply tp 8 10 rfl (by kernel_rfl) (fun _ _ _ h=>h) (by rfl)
   ·intro wq _;go_simp;(try with_reducible rfl)
   (try simp only [zp,za,z0,zs]);refine aD (i:=9) (by kernel_rfl) rfl (by kernel_rfl) (fun K hK=>?_);have z0:=FH.out.frozen 0;have z1:=(FH.out.put 0 (.int .i64 0)).frozen 1;have z2:=FH.out.cell 0;have z3:=(FH.out.put 0 (.int .i64 0)).cell 1;go_simp;(try dsimp only);refine hK.out _ _ ?_;clear hK K;refine aN (by kernel_rfl) ?_ _;go_simp;go_wp2_with fail;go_meet;rw [kQ FH.out rfl,kQ FH.out rfl];exact⟨Ba,ma,qa,va.heap.size,rfl,rfl,Xf.out,FH.out,Oz.out⟩
  go_simp;(try dsimp only);refine hK.out _ _ ?_ (fun bt=>?_);exact HC.out _ ((aE (Below.refl W2.heap.size W2)).alloc (Nat.le_refl _) _);clear hK K;(try simp only [zp,za,z0,zs]);refine aF (i:=2) (o:=⟨some 24,_,_,_,_,_⟩) (by kernel_rfl) rfl (fun K hK=>?_);go_simp;go_at_call 36;refine(GN.out (W2.drew.alloc (.cells #[.int .i64 0,.int .i64 0] 51))).mono ?_;rintro e va ⟨ua,rfl,SG,hda⟩;obtain⟨Da,ka,rfl,hka⟩:=aH SG;have Fb:=Lib.hid (show Below W2.heap.size W2 va from((aE (Below.refl W2.heap.size W2)).alloc (Nat.le_refl _) _).trans (hda.mono ((aE (Below.refl W2.heap.size W2)).alloc (Nat.le_refl _) _).size));have YY:=Lib.hid (Rd.cj SG);have V2:=Lib.hid (show ak va W2.heap.size 51 #[.int .i64 0,.int .i64 0] from(ak.new W2.drew 51 #[.int .i64 0,.int .i64 0]).below hda (ak.new W2.drew 51 #[.int .i64 0,.int .i64 0]).lt);clear SG hda;(try dsimp only);refine hK.out _ _ ?_ (fun bt=>?_);exact HC.out _ Fb.out;clear hK K;(try simp only [zp,za,z0,zs]);refine aF (i:=3) (o:=⟨some 25,_,_,_,_,_⟩) (by kernel_rfl) rfl (fun K hK=>?_);go_simp;go_at_call 35;refine(fh.out va Fb.out Da ka hka YY.out).mono ?_;rintro e ga ⟨⟨Ba,ma,qa,rfl,tH⟩,hba⟩;have Oz:=Lib.hid (show Below W2.heap.size W2 ga from(Fb.out).trans (hba.mono (Fb.out).size));have Xf:=Lib.hid tH.of;have FH:=Lib.hid (V2.out.below hba V2.out.lt);clear tH hba;(try dsimp only);refine hK.out _ _ ?_ (fun bt=>?_);exact HC.out _ Oz.out;clear hK K;(try simp only [zp,za,z0,zs]);apply tp 4 21 rfl (by kernel_rfl) (fun _ _ _ h=>h) (by rfl)
  ·intro wq _;go_simp;(try with_reducible rfl)
  (try simp only [zp,za,z0,zs]);apply tp 5 26 rfl (by kernel_rfl) (fun _ _ _ h=>h) (by rfl)
  ·intro wq _;go_simp;(try with_reducible rfl)
  (try simp only [zp,za,z0,zs]);apply tp 6 27 rfl (by kernel_rfl) (fun _ _ _ h=>h) (by rfl)
  ·intro wq _;go_simp;(try with_reducible rfl)
  (try simp only [zp,za,z0,zs]);apply tp 8 10 rfl (by kernel_rfl) (fun _ _ _ h=>h) (by rfl)
  ·intro wq _;go_simp;(try with_reducible rfl)
  (try simp only [zp,za,z0,zs]);refine aD (i:=9) (by kernel_rfl) rfl (by kernel_rfl) (fun K hK=>?_);have z0:=FH.out.frozen 0;have z1:=(FH.out.put 0 (.int .i64 0)).frozen 1;have z2:=FH.out.cell 0;have z3:=(FH.out.put 0 (.int .i64 0)).cell 1;go_simp;(try dsimp only);refine hK.out _ _ ?_;clear hK K;refine aN (by kernel_rfl) ?_ _;go_simp;go_wp2_with fail;go_meet;rw [kQ FH.out rfl,kQ FH.out rfl];exact⟨Ba,ma,qa,W2.heap.size,rfl,rfl,Xf.out,FH.out,Oz.out⟩
 obtain⟨A,n,c,G,rfl,rfl,hrd,OJ,hbc⟩:=hcut;have FQ:=hrd.len;have IZ:n≤4000:=(by have:=Te.out;omega);have HE:=Lib.hid (Fg.out A n c wc IZ hrd);have TS:=Lib.hid (aW.out.trans (hbc.mono aW.out.size));have g0:=OJ.cell 0;have g1:=OJ.cell 1;clear hrd OJ hbc FQ s0 s1 s2;go_wp2_with fail;refine HE.out.mono ?_;rintro e w9 ⟨rfl,cV⟩;have fN:=Lib.hid (TS.out.trans (cV.mono TS.out.size));clear cV;go_wp2_with fail;go_ret2;exact⟨rfl,fN.out⟩
end Go.Proofs.YtapechjebkjidaaGreatDoor
namespace Go.Proofs.YtapechjebkjidaaGreatDoor
open Go.RowKit
def ji (l:List au):bl:=⟨false,[],[⟨⟨#[]⟩,l⟩]⟩
theorem Ik {s:bl} (h:s.only? = false):∀ (t pc out:List Int),nW s t pc out=iG s (pc++t) out:=by
 intro t;induction t with
 | nil=>intro pc out;rw [nW,List.append_nil]
 | cons x t ih=>
  intro pc out;rw [GA (by unfold qo;rw [h];rfl),ih,List.append_assoc];rfl
theorem xS (l:List au) (t:List Int):iI ⟨⟨#[]⟩,l⟩ t=((gu l t).1.text,(gu l t).2.1):=by
 have h1:isUpper ⟨#[]⟩=false:=(by simp [isUpper,ByteArray.toList_eq]);have h2:isLower ⟨#[]⟩=false:=(by simp [isLower,ByteArray.toList_eq]);have h3:rB ⟨#[]⟩=false:=(by simp [rB,ByteArray.toList_eq]);have h4:isNull ⟨#[]⟩=false:=(by simp [isNull,ByteArray.toList_eq]);unfold iI;rw [h1,h2,h3,h4];rfl
theorem tE (l:List au) (K:Nat) (hK:1≤K) (hl:∀ r∈l,zc K r) (t:List Int) (h1:(dY l).1=0) (h2:(gE l).2.1=0) (h3:gw t=0) (h4:K*t.length≤4000):(gu l t).1.text=cP l (8*t.length+40) [] t∧(gu l t).2=(0,0):=by
 obtain⟨s',p',h5⟩:=LQ l K hK hl (8*t.length+40) [] t 0 0 (by omega) (by simpa using h4);unfold gu;rw [if_neg (by rw [h1];decide),if_neg (by rw [h3];decide),if_neg (by rw [h2];decide),h5];exact⟨rfl,rfl⟩
theorem go_rules (l:List au) (K:Nat) (hK:1≤K) (hl:∀ r∈l,zc K r) (t:List Int) (h0:(cI (ji l)).1=0) (h1:(dY l).1=0) (h2:(gE l).2.1=0) (h3:gw t=0) (h4:K*t.length≤4000):LO (ji l) t=(cP l (8*t.length+40) [] t,(0,0)):=by
 obtain⟨p1,p2⟩:=tE l K hK hl t h1 h2 h3 h4;have hall:allI 0 (ji l).passes t=(cP l (8*t.length+40) [] t,(0,0)):=by
  show allI 0 [⟨⟨#[]⟩,l⟩] t=_;rw [allI,xS,p2,p1];rfl
 have hg:nW (ji l) t [] [] =(cP l (8*t.length+40) [] t,(0,0)):=by
  rw [Ik rfl,List.nil_append];unfold iG;by_cases ht:t = []
  ·rw [if_pos ht,ht,AK]
  rw [if_neg ht,hall];rfl
 have hlen:(cP l (8*t.length+40) [] t).length≤4000:=(by rw [← p1];exact qJ l t);unfold LO;rw [if_neg (by rw [h0];decide),if_neg (by rw [h3];decide),hg,if_neg (fun h=>h rfl),if_neg (by simpa using hlen)]
end Go.Proofs.YtapechjebkjidaaGreatDoor
