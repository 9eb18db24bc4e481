/- TopFound: its row. -/
import Derived.Deep.CutBlock
import Derived.Deep.DeepCutAuto
import Derived.Test.YthgkedoildcbcaaGreatDoorCards
import Derived.Test.YthgkedoildcbcaaGreatDoorTie
import Derived.Test.YthgkedoildcbcaaGreatDoorTopFoundJ
import Derived.Test.YthgkedoildcbcaaGreatDoorZt0
import Derived.Test.YthgkedoildcbcaaGreatDoorZt1
import Derived.Test.YthgkedoildcbcaaGreatDoorZt10
import Derived.Test.YthgkedoildcbcaaGreatDoorZt18
import Derived.Test.YthgkedoildcbcaaGreatDoorZt24
import Derived.Test.YthgkedoildcbcaaGreatDoorZt29
import Derived.Test.YthgkedoildcbcaaGreatDoorZt34
import Derived.Test.YthgkedoildcbcaaGreatDoorZt36
import Derived.Test.YthgkedoildcbcaaGreatDoorZt37
import Derived.Test.YthgkedoildcbcaaGreatDoorZt39
import Derived.Test.YthgkedoildcbcaaGreatDoorZt4
import Derived.Test.YthgkedoildcbcaaGreatDoorZt44
import Derived.Test.YthgkedoildcbcaaGreatDoorZt45
import Derived.Test.YthgkedoildcbcaaGreatDoorZt6
set_option maxHeartbeats 12800000
set_option maxRecDepth 100000
namespace Go.Proofs.YthgkedoildcbcaaGreatDoor
open Go.RowKit
def RulesIn (w:World) (A:Option Addr) (n:Nat):Prop:=∃ l:List aj,aZ (aO w (fun _=>True)) w (fun _=>True) 7 A n l∧n≤maxLen
theorem RulesIn.nil (w:World):RulesIn w none 0:=⟨[],⟨[],rfl,rfl,by simp,by simp,bW.nil 7⟩,Nat.zero_le _⟩
theorem RulesIn.below {w w':World} {A:Option Addr} {n:Nat} (hb:Below w.heap.size w w') (h:RulesIn w A n):RulesIn w' A n:=by
 obtain⟨l,h1,h2⟩:=h;exact⟨l,h1.keep (af.any hb) (fun _ _=>aO.keep (af.any hb)),h2⟩
def SinglePost (w:World) (e:Ending) (w':World):Prop:=(∃ A n c B m d ok,e=.returned (.tuple #[.slice A n c,.slice B m d,.bool ok])∧(ok=true→RulesIn w' A n∧RulesIn w' B m))∧Below w.heap.size w w'
theorem single_no (w w':World) (hb:Below w.heap.size w w'):SinglePost w (.returned (.tuple #[.slice none 0 0,.slice none 0 0,.bool false])) w' :=
  ⟨⟨none,0,0,none,0,0,false,rfl,fun h=>by cases h⟩,hb⟩
theorem script_cut {w:World} {X:Nat→Prop} {s:b8} {cs:List Value} (h:ij w X s cs):∃ A1 n1 c1 A2 n2 c2,cs = [.bool s.only?,.slice A1 n1 c1,.slice A2 n2 c2]∧gW w X s A1 n1 A2 n2:=by
 obtain⟨u,v,rfl,⟨A1,n1,c1,rfl,q1,q2⟩,⟨A2,n2,c2,rfl,q3,q4⟩⟩:=h;exact⟨A1,n1,c1,A2,n2,c2,rfl,q1,q3,q2,q4⟩
theorem script_at {w:World} {X:Nat→Prop} {s:b8} {A1 A2:Option Addr} {n1 c1 n2 c2:Nat} (h:ij w X s [.bool s.only?,.slice A1 n1 c1,.slice A2 n2 c2]):gW w X s A1 n1 A2 n2:=by
 obtain⟨_,_,he,⟨_,_,_,rfl,q1,q2⟩,⟨_,_,_,rfl,q3,q4⟩⟩:=h;injection he with _ he;injection he with e1 he;injection he with e2 _;cases e1;cases e2;exact⟨q1,q3,q2,q4⟩
theorem top_drewN {B:Nat} {a w:World} (h:Below B a w) (n:Nat):Below B a (w.drewN n):=h.trans ⟨rfl,rfl,rfl,Nat.le_refl _,fun _ _=>rfl⟩
theorem ai.setOther {w:World} {g b i:Nat} {t:TypeId} {cs:Array Value} (h:ai w g t cs) (hne:g≠b) (u:Value):ai (w.setCell ⟨b,i,none⟩ u) g t cs :=
  (Below.heap_setCell _ _ _ _ hne).trans h
theorem top_single (s:ByteArray) (hs:s.size≤1099511627776) (w:World) :
    Calls Tryz.prog 6 #[.string s] w (SinglePost w):=by
 have oe:=qqh (xx s w hs);unfold tT at oe;have hp200:=(sx (gl.ok (mG s))).2;go_enter Tryz.func6,Tryz.ntmps6;go_wp2_with fail;refine oe.out.mono ?_;rintro e w1 ⟨⟨A,n,c,rfl,hx,hnc⟩,aW⟩;obtain⟨L,f1,f2,hP⟩:∃ L f1 f2,ku (bJ s 0)=(L,(f1,f2)):=⟨_,_,_,rfl⟩;rw [hP]at hx hp200 ⊢;dsimp only at hx hp200 ⊢;have hba:=(Below.refl w1.heap.size w1).alloc (Nat.le_refl _) (.cells #[.int .i64 f1,.int .i64 f2] 32);have b7:=qqh (aW.trans (hba.mono aW.size));have iU:=qqh (ai.new w1 32 #[.int .i64 f1,.int .i64 f2]);have hn:n≤maxLen:=(by have:=hx.len;simp only [maxLen];omega);have oH:=qqh (Ee.weak (gn hba (Nat.le_refl _)) hx.rd);have kC:=qqh aW.size;clear aW hx hP hba hp200 oe hnc;go_upto_region 2 with fail;have d0:=iU.out.cell 0;by_cases hz:f1=0
 ·subst hz;have HFO:=qqh (Ak w1.heap.size A n c L _ hn (by simp) oH.out);unfold tg at HFO;go_wp2_with fail;refine HFO.out.mono ?_;rintro e w2 ⟨⟨cs,_,rfl,hcs⟩,bu⟩;obtain⟨sc,g1,g2,hR⟩:∃ sc g1 g2,dD false L=(sc,(g1,g2)):=⟨_,_,_,rfl⟩;rw [hR]at hcs ⊢;dsimp only at hcs ⊢;obtain⟨A1,n1,c1,A2,n2,c2,rfl,_⟩:=script_cut hcs;have hF2:=(iU.out.below bu iU.out.lt).alloc (.cells #[.bool sc.only?,.slice A1 n1 c1,.slice A2 n2 c2] 53);have hS2:=ai.new w2 53 #[.bool sc.only?,.slice A1 n1 c1,.slice A2 n2 c2];have E5:=(iU.out.below bu iU.out.lt).lt;have F6:=(Below.refl w2.heap.size w2).alloc (Nat.le_refl _) (.cells #[.bool sc.only?,.slice A1 n1 c1,.slice A2 n2 c2] 53);have hba:=((F6.mono (Nat.le_of_lt E5)).setCell (p:=⟨w1.heap.size,0,none⟩) (Nat.le_refl _) (.int .i64 g1)).setCell (p:=⟨w1.heap.size,1,none⟩) (Nat.le_refl _) (.int .i64 g2);have xo:=qqh (show Below w1.heap.size (w1.alloc (.cells #[.int .i64 0,.int .i64 f2] 32)) _ from(bu.mono (by simp)).trans hba);have bG:=qqh (b7.out.trans ((bu.trans (F6.mono bu.size)).mono b7.out.size) |>.setCell (p:=⟨w1.heap.size,0,none⟩) (kC.out) (.int .i64 g1) |>.setCell (p:=⟨w1.heap.size,1,none⟩) (kC.out) (.int .i64 g2));have mh:=qqh (Ee.weak (gn xo.out (Nat.le_refl _)) oH.out);have oo:=qqh (((hS2.setOther (i:=0) (Nat.ne_of_gt E5) (.int .i64 g1))).setOther (i:=1) (Nat.ne_of_gt E5) (.int .i64 g2));have fm:=qqh ((hF2.put 0 (.int .i64 g1)).put 1 (.int .i64 g2));have hkp:af w2 (Fr w1.heap.size (w1.alloc (.cells #[.int .i64 0,.int .i64 f2] 32)).heap.size) (((w2.alloc (.cells #[.bool sc.only?,.slice A1 n1 c1,.slice A2 n2 c2] 53)).setCell ⟨w1.heap.size,0,none⟩ (.int .i64 g1)).setCell ⟨w1.heap.size,1,none⟩ (.int .i64 g2)) (fun _=>True):=by
   have hne:∀ b,Fr w1.heap.size (w1.alloc (.cells #[.int .i64 0,.int .i64 f2] 32)).heap.size b→b≠w1.heap.size:=by
    intro b hb;rcases hb with hb | hb;omega;simp at hb;omega
   exact((af.below (X':=fun b=>b≠w1.heap.size) F6 (fun b h _=>hne b h)).trans (af.setCell (X':=fun b=>b≠w1.heap.size) _ (fun b h=>h) (fun b h _=>h))).trans (af.setCell _ (fun b h=>h) (fun b h _=>trivial))
  have sC:=qqh (hcs.keep hkp);have f0:=hF2.frozen 0;have k0:=hF2.cell 0;have k1':=(hF2.put 0 (.int .i64 g1)).frozen 1;have k1:=(hF2.put 0 (.int .i64 g1)).cell 1;clear bu hcs hS2 F6 hba hkp hF2 oH b7 HFO E5 d0;go_upto_region 5 with fail;clear f0 k0 k1' k1;generalize ((w2.alloc (.cells #[.bool sc.only?,.slice A1 n1 c1,.slice A2 n2 c2] 53)).setCell ⟨w1.heap.size,0,none⟩ (.int .i64 g1)).setCell ⟨w1.heap.size,1,none⟩ (.int .i64 g2)=W2 at *;have HBK:=qqh (DJ w1.heap.size A n c L W2 hn (Nat.le_of_lt fm.out.lt) mh.out);unfold tg at HBK;go_wp2_with fail;refine HBK.out.mono ?_;rintro e w3 ⟨⟨ds,_,rfl,hds⟩,bN⟩;obtain⟨sd,h1,h2,TS⟩:∃ sd h1 h2,dD true L=(sd,(h1,h2)):=⟨_,_,_,rfl⟩;rw [TS]at hds ⊢;dsimp only at hds ⊢;obtain⟨B1,m1,d1,B2,m2,d2,rfl,_⟩:=script_cut hds;have F6:=((Below.refl w3.heap.size w3).alloc (Nat.le_refl _) (.cells #[.bool sd.only?,.slice B1 m1 d1,.slice B2 m2 d2] 53)).alloc (by simp) (.cells #[.int .i64 h1,.int .i64 h2] 32);have dL:=bN.trans (F6.mono bN.size);have bL:=qqh (bG.out.trans (dL.mono bG.out.size));have eV:=qqh (fm.out.below dL fm.out.lt);have Ko:=qqh (oo.out.below dL oo.out.lt);have rH:=qqh (sC.out.keep (af.any dL));have HT3:=qqh ((ai.new w3 53 #[.bool sd.only?,.slice B1 m1 d1,.slice B2 m2 d2]).alloc (.cells #[.int .i64 h1,.int .i64 h2] 32))
  have QL:=qqh (show ai ((w3.alloc (.cells #[.bool sd.only?,.slice B1 m1 d1,.slice B2 m2 d2] 53)).alloc (.cells #[.int .i64 h1,.int .i64 h2] 32)) (w3.heap.size+1) 32 #[.int .i64 h1,.int .i64 h2] by simpa using ai.new (w3.alloc (.cells #[.bool sd.only?,.slice B1 m1 d1,.slice B2 m2 d2] 53)) 32 #[.int .i64 h1,.int .i64 h2]);have HD3:=qqh (hds.keep (af.below F6 (X':=fun _=>True) (fun _ _ _=>trivial)));clear bN hds F6 dL bG fm oo sC mh HBK;go_upto_region 6 with fail;generalize (w3.alloc (.cells #[.bool sd.only?,.slice B1 m1 d1,.slice B2 m2 d2] 53)).alloc (.cells #[.int .i64 h1,.int .i64 h2] 32)=W3 at *;have q0:W3.cell? ⟨w1.heap.size,0,none⟩=some (.int .i64 g1):=eV.out.cell 0;have q1:W3.cell? ⟨w2.heap.size,0,none⟩=some (.bool sc.only?):=Ko.out.cell 0;have q2:W3.cell? ⟨w2.heap.size,2,none⟩=some (.slice A2 n2 c2):=Ko.out.cell 2;have q3:W3.cell? ⟨w3.heap.size,2,none⟩=some (.slice B2 m2 d2):=HT3.out.cell 2;have q4:W3.cell? ⟨w3.heap.size+1,0,none⟩=some (.int .i64 h1):=QL.out.cell 0;have lY:=script_at rH.out;have bl:=script_at HD3.out;clear rH HD3 eV Ko HT3 QL;have OS:=lY.pas.len;have hpl2:=bl.pas.len;by_cases hg:g1=0
  ·subst hg;by_cases hh:h1=0
   ·subst hh;obtain⟨so,hso⟩:∃ so,sc.only? = so:=⟨_,rfl⟩;rw [hso]at q1;cases so
    ·by_cases hn2:n2=1
     ·subst hn2;by_cases hm2:1<m2
      ·have hmt:decide ((1:Int)<(m2:Int))=true:=decide_eq_true (by omega);go_wp2_with fail;go_ret3;exact single_no _ _ bL.out
      have hmt:decide ((1:Int)<(m2:Int))=false:=decide_eq_false (by omega);obtain⟨p,hp⟩:∃ p,sc.passes[0]? = some p:=⟨_,List.getElem?_eq_getElem (by omega)⟩;obtain⟨b,off,A',n',c',rfl,_,eX,hc0,hc1,hru,hn'⟩:=rM lY.pas hp;rw [Nat.zero_mul,Nat.add_zero]at hc0 hc1;have Wl:=qqh (show RulesIn W3 A' n' from⟨p.rules,hru,hn'⟩);by_cases hm0:m2=0
      ·subst hm0;go_wp2_with fail
       all_goals
         go_ret3
         first
         | exact single_no _ _ bL.out
         | exact⟨⟨A',n',c',none,0,0,true,rfl,fun _=>⟨Wl.out,RulesIn.nil _⟩⟩,bL.out⟩
      obtain rfl:m2=1:=(by omega);obtain⟨p2,hp2⟩:∃ p,sd.passes[0]? = some p:=⟨_,List.getElem?_eq_getElem (by omega)⟩;obtain⟨b2,off2,A2',n2',QF,rfl,_,ahz,XA,wu,hru2,hn2'⟩:=rM bl.pas hp2;rw [Nat.zero_mul,Nat.add_zero]at XA wu;have HRU2:=qqh (show RulesIn W3 A2' n2' from⟨p2.rules,hru2,hn2'⟩);go_wp2_with fail
      ·go_ret3;exact single_no _ _ bL.out
      go_quiet (fail);have hbq:=top_drewN bL.out nq;have bR:=top_drewN (Below.refl W3.heap.size W3) nq;have h1:=Wl.out.below bR;have h2:=HRU2.out.below bR;go_wp2_with fail;go_ret3;exact⟨⟨A',n',c',A2',n2',QF,_,rfl,fun _=>⟨h1,h2⟩⟩,hbq⟩
     have aaS:((n2:Int) == 1)=false:=(by rw [beq_eq_false_iff_ne];omega);go_wp2_with fail;go_ret3;exact single_no _ _ bL.out
    go_wp2_with fail;go_ret3;exact single_no _ _ bL.out
   go_wp2_with fail;go_ret3;exact single_no _ _ bL.out
  go_wp2_with fail;go_ret3;exact single_no _ _ bL.out
 go_wp2_with fail;go_ret3;exact single_no _ _ b7.out
end Go.Proofs.YthgkedoildcbcaaGreatDoor
namespace Go.Proofs.YthgkedoildcbcaaGreatDoor
open Go.RowKit
def aliveS:ByteArray:=⟨#[36,118,32,61,32,91,97,45,99,93,59,10,36,118,32,125,32,120,32,62,32,121,32,59,10,58,58,32,117,112,112,101,114,32,59,10]⟩
def aliveX:ByteArray:=⟨#[97,120,98,195,169]⟩
noncomputable def aliveP:List aF:=(ku (bJ aliveS 0)).1
noncomputable def aliveSc:b8:=(dD false aliveP).1
theorem alive_f1:(ku (bJ aliveS 0)).2=(0,0):=by kernel_rfl
theorem alive_n:aliveP.length=3:=by kernel_rfl
theorem alive_f2:(dD false aliveP).2=(0,0):=by kernel_rfl
theorem alive_x:bJ aliveX 0 = [97,120,98,233]:=by kernel_rfl
theorem alive_f3:RN aliveSc [97,120,98,233] =([89,88,66,201],(0,0)):=by kernel_rfl
theorem alive_f4:runesBytes [89,88,66,201] =⟨#[89,88,66,195,137]⟩:=by decide +kernel
theorem top_alive (w:World) :
    Calls Tryz.prog 5 #[] w fun e w'=>e=.returned (.bool true)∧Below w.heap.size w w':=by
 have oe:=qqh (show Calls Tryz.prog 13 #[.string ⟨#[36,118,32,61,32,91,97,45,99,93,59,10,36,118,32,125,32,120,32,62,32,121,32,59,10,58,58,32,117,112,112,101,114,32,59,10]⟩] w fun e w'=>(∃ A n c,e=.returned (.tuple #[.slice A n c,.agg #[.int .i64 0,.int .i64 0]])∧gT w' (fun b=>w.heap.size≤b) A n aliveP∧n≤c)∧Below w.heap.size w w' by
  have h:=xx aliveS w (by decide);unfold tT at h;rw [alive_f1]at h;exact h)
 have HDE:=qqh (fun(W:World)=>show Calls Tryz.prog 7 #[.string ⟨#[97,120,98,195,169]⟩] W fun e w'=>∃ v,e=.returned v∧sP w' W.heap.size v [97,120,98,233]∧Below W.heap.size W w' by
  have h:=qZ aliveX W (by decide);unfold Bg at h;rw [alive_x]at h;exact h)
 go_enter Tryz.func5,Tryz.ntmps5;go_wp2_with fail;refine oe.out.mono ?_;rintro e w1 ⟨⟨A,n,c,rfl,hx,_⟩,aW⟩;have hba:=(Below.refl w1.heap.size w1).alloc (Nat.le_refl _) (.cells #[.int .i64 0,.int .i64 0] 32);have b7:=qqh (aW.trans (hba.mono aW.size));have iU:=qqh (ai.new w1 32 #[.int .i64 0,.int .i64 0]);have HN:=qqh (show n≤maxLen by have:=hx.len;rw [alive_n]at this;simp only [maxLen];omega);have oH:=qqh (Ee.weak (gn hba hba.size) hx.rd);clear aW hx hba oe;go_wp2_with fail;refine(Ak _ A n c aliveP _ HN.out (Nat.le_refl _) oH.out).mono ?_;rintro e w2 ⟨⟨cs,_,he,hcs⟩,bu⟩;rw [alive_f2]at he;subst he;change ij _ _ aliveSc _ at hcs;obtain⟨A1,n1,c1,A2,n2,c2,rfl,_⟩:=script_cut hcs;have hbc:=((Below.refl w2.heap.size w2).alloc (Nat.le_refl _) (.cells #[.bool aliveSc.only?,.slice A1 n1 c1,.slice A2 n2 c2] 53)).alloc (by simp) (.cells #[.int .i64 0,.int .i64 0] 32);have bG:=qqh ((b7.out.trans (bu.mono b7.out.size)).trans (hbc.mono (b7.out.trans (bu.mono b7.out.size)).size));have oo:=qqh ((ai.new w2 53 #[.bool aliveSc.only?,.slice A1 n1 c1,.slice A2 n2 c2]).alloc (.cells #[.int .i64 0,.int .i64 0] 32));have mZ:=qqh (show ai ((w2.alloc (.cells #[.bool aliveSc.only?,.slice A1 n1 c1,.slice A2 n2 c2] 53)).alloc (.cells #[.int .i64 0,.int .i64 0] 32)) (w2.heap.size+1) 32 #[.int .i64 0,.int .i64 0] by simpa using ai.new (w2.alloc (.cells #[.bool aliveSc.only?,.slice A1 n1 c1,.slice A2 n2 c2] 53)) 32 #[.int .i64 0,.int .i64 0])
 have fm:=qqh (ai.below (ai.below iU.out bu iU.out.lt) hbc (ai.below iU.out bu iU.out.lt).lt);have sC:=qqh (script_at (hcs.keep (af.below hbc (X':=fun _=>True) (fun _ _ _=>trivial))));clear bu hcs hbc b7 iU oH;go_upto_region 3 with fail;generalize (w2.alloc (.cells #[.bool aliveSc.only?,.slice A1 n1 c1,.slice A2 n2 c2] 53)).alloc (.cells #[.int .i64 0,.int .i64 0] 32)=W2 at *;have s0:W2.cell? ⟨w2.heap.size,0,none⟩=some (.bool aliveSc.only?):=oo.out.cell 0;have s1:W2.cell? ⟨w2.heap.size,1,none⟩=some (.slice A1 n1 c1):=oo.out.cell 1;have s2:W2.cell? ⟨w2.heap.size,2,none⟩=some (.slice A2 n2 c2):=oo.out.cell 2
 have HC:=qqh (fun(W:World) (hb:Below W2.heap.size W2 W)=>show W.cell? ⟨w2.heap.size,0,none⟩=some (.bool aliveSc.only?)∧W.cell? ⟨w2.heap.size,1,none⟩=some (.slice A1 n1 c1)∧W.cell? ⟨w2.heap.size,2,none⟩=some (.slice A2 n2 c2) from
   ⟨(ai.below oo.out hb oo.out.lt).cell 0,(ai.below oo.out hb oo.out.lt).cell 1,(ai.below oo.out hb oo.out.lt).cell 2⟩)
 have dY:=qqh (fun(W:World) (hb:Below W2.heap.size W2 W) (At:Option Addr) (ct:Nat) (hct:4≤ct) (ht:mc W W.heap.size At 4 [97,120,98,233])=>show Calls Tryz.prog 15 #[.agg #[.bool aliveSc.only?,.slice A1 n1 c1,.slice A2 n2 c2],.slice At 4 ct] W fun e w'=>GP W.heap.size w' ([89,88,66,201],(0,0)) e∧Below W.heap.size W w' by
  have h:=DD (fun _=>True) aliveSc [97,120,98,233] A1 A2 At n1 c1 n2 c2 4 ct W (sC.out.keep (af.below hb (fun _ _ _=>trivial))) hct (by decide) ht;rwa [alive_f3]at h)
 unfold GP at dY;go_cut [5,6] (fun s10 s11 wx=>∃ (A:Option Addr) (n c G:Nat),s10=.slice A n c∧s11=.pointer (some ⟨G,0,none⟩)∧mc wx wx.heap.size A n [89,88,66,201]∧ai wx G 32 #[.int .i64 0,.int .i64 0]∧Below W2.heap.size W2 wx);case first=>
  refine ay (S:=fun w'=>w'.cell? ⟨w2.heap.size,0,none⟩=some (.bool aliveSc.only?)∧w'.cell? ⟨w2.heap.size,1,none⟩=some (.slice A1 n1 c1)∧w'.cell? ⟨w2.heap.size,2,none⟩=some (.slice A2 n2 c2)) [0] (by kernel_rfl) ⟨s0,s1,s2⟩ (fun bH=>?_);apply tt 0 17 rfl (by kernel_rfl) (fun _ _ _ h=>h) (by rfl) (by assumption)
  ·intro wq sG;(try dsimp only at sG);go_simp;(try with_reducible rfl)
  (try simp only [zp,za,z0,zs]);refine gi (i:=1) (j:=6) (o:=⟨some 18,_,_,_,_,_⟩) (o2:=⟨some 6,_,_,_,_,_⟩) (by kernel_rfl) rfl rfl (fun K hK=>?_) (fun K hK=>?_)
  ·go_simp;go_at_call 7;refine(HDE.out W2.drew).mono ?_;rintro e va ⟨ua,rfl,hoa,hda⟩;obtain⟨Da,ka,rfl,hka⟩:=aI hoa;have HDa:=qqh (show Below W2.heap.size W2 va from(aD (Below.refl W2.heap.size W2)).trans (hda.mono (aD (Below.refl W2.heap.size W2)).size));have HOa:=qqh (Rd.cy hoa);clear hoa hda;(try dsimp only);refine hK.out _ _ ?_ (fun bH=>?_);exact HC.out _ HDa.out;clear hK K;(try simp only [zp,za,z0,zs]);refine gi (i:=2) (j:=6) (o:=⟨some 19,_,_,_,_,_⟩) (o2:=⟨some 6,_,_,_,_,_⟩) (by kernel_rfl) rfl rfl (fun K hK=>?_) (fun K hK=>?_)
   ·go_simp;go_at_call 15;refine(dY.out va HDa.out Da ka hka HOa.out).mono ?_;rintro e ga ⟨⟨Ba,ma,qa,rfl,zv⟩,hba⟩;have HGa:=qqh (show Below W2.heap.size W2 ga from(HDa.out).trans (hba.mono (HDa.out).size));have HRa:=qqh zv.of;clear zv hba;(try dsimp only);refine hK.out _ _ ?_ (fun bH=>?_);exact HC.out _ HGa.out;clear hK K;(try simp only [zp,za,z0,zs]);apply tp 3 16 rfl (by kernel_rfl) (fun _ _ _ h=>h) (by rfl)
    ·intro wq _;go_simp;(try with_reducible rfl)
    (try simp only [zp,za,z0,zs]);apply tp 4 20 rfl (by kernel_rfl) (fun _ _ _ h=>h) (by rfl)
    ·intro wq _;go_simp;(try with_reducible rfl)
    (try simp only [zp,za,z0,zs]);apply tp 5 21 rfl (by kernel_rfl) (fun _ _ _ h=>h) (by rfl)
    ·intro wq _;go_simp;(try with_reducible rfl)
    (try simp only [zp,za,z0,zs]);refine aG (i:=6) (o:=⟨some 6,_,_,_,_,_⟩) (by kernel_rfl) rfl (fun K hK=>?_);go_simp;(try dsimp only);refine hK.out _ _ ?_ (fun bH=>?_);exact HC.out _ (HGa.out.alloc HGa.out.size _);clear hK K;(try simp only [zp,za,z0,zs]);apply tp 7 5 rfl (by kernel_rfl) (fun _ _ _ h=>h) (by rfl)
    ·intro wq _;go_simp;(try with_reducible rfl)
    (try simp only [zp,za,z0,zs]);refine aA (i:=8) (by kernel_rfl) rfl (by kernel_rfl) (fun K hK=>?_);go_simp;(try dsimp only);refine hK.out _ _ ?_;clear hK K;refine aJ (by kernel_rfl) ?_ _;go_simp;go_wp2_with fail;go_meet;exact⟨Ba,ma,qa,ga.heap.size,rfl,rfl,HRa.out.below ((Below.refl _ _).alloc (Nat.le_refl _) _) |>.more (by simp),ai.new _ _ _,HGa.out.alloc HGa.out.size _⟩
   go_simp;(try dsimp only);refine hK.out _ _ ?_ (fun bH=>?_);exact HC.out _ (HDa.out.alloc HDa.out.size _);clear hK K;(try simp only [zp,za,z0,zs]);refine aG (i:=2) (o:=⟨some 19,_,_,_,_,_⟩) (by kernel_rfl) rfl (fun K hK=>?_);have HZa:=qqh (ai.new va 32 #[.int .i64 0,.int .i64 0]);go_simp;go_at_call 15;refine(dY.out (va.alloc (.cells #[.int .i64 0,.int .i64 0] 32)) (HDa.out.alloc HDa.out.size _) Da ka hka (HOa.out.below ((Below.refl _ _).alloc (Nat.le_refl _) _) |>.more (by simp))).mono ?_;rintro e ga ⟨⟨Ba,ma,qa,rfl,zv⟩,hba⟩;have HGa:=qqh (show Below W2.heap.size W2 ga from((HDa.out.alloc HDa.out.size _)).trans (hba.mono ((HDa.out.alloc HDa.out.size _)).size));have HRa:=qqh zv.of;have HFa:=qqh (HZa.out.below hba HZa.out.lt);clear zv hba;(try dsimp only);refine hK.out _ _ ?_ (fun bH=>?_);exact HC.out _ HGa.out;clear hK K;(try simp only [zp,za,z0,zs]);apply tp 3 16 rfl (by kernel_rfl) (fun _ _ _ h=>h) (by rfl)
   ·intro wq _;go_simp;(try with_reducible rfl)
   (try simp only [zp,za,z0,zs]);apply tp 4 20 rfl (by kernel_rfl) (fun _ _ _ h=>h) (by rfl)
   ·intro wq _;go_simp;(try with_reducible rfl)
   (try simp only [zp,za,z0,zs]);apply tp 5 21 rfl (by kernel_rfl) (fun _ _ _ h=>h) (by rfl)
   ·intro wq _;go_simp;(try with_reducible rfl)
   (try simp only [zp,za,z0,zs]);apply tp 7 5 rfl (by kernel_rfl) (fun _ _ _ h=>h) (by rfl)
   ·intro wq _;go_simp;(try with_reducible rfl)
   (try simp only [zp,za,z0,zs]);refine aA (i:=8) (by kernel_rfl) rfl (by kernel_rfl) (fun K hK=>?_);have z0:=HFa.out.frozen 0;have z1:=(HFa.out.put 0 (.int .i64 0)).frozen 1;have z2:=HFa.out.cell 0;have z3:=(HFa.out.put 0 (.int .i64 0)).cell 1;go_simp;(try dsimp only);refine hK.out _ _ ?_;clear hK K;refine aJ (by kernel_rfl) ?_ _;go_simp;go_wp2_with fail;go_meet;rw [Dc HFa.out rfl,Dc HFa.out rfl];exact⟨Ba,ma,qa,va.heap.size,rfl,rfl,HRa.out,HFa.out,HGa.out⟩
  go_simp;(try dsimp only);refine hK.out _ _ ?_ (fun bH=>?_);exact HC.out _ ((aD (Below.refl W2.heap.size W2)).alloc (Nat.le_refl _) _);clear hK K;(try simp only [zp,za,z0,zs]);refine aG (i:=1) (o:=⟨some 18,_,_,_,_,_⟩) (by kernel_rfl) rfl (fun K hK=>?_);go_simp;go_at_call 7;refine(HDE.out (W2.drew.alloc (.cells #[.int .i64 0,.int .i64 0] 32))).mono ?_;rintro e va ⟨ua,rfl,hoa,hda⟩;obtain⟨Da,ka,rfl,hka⟩:=aI hoa;have HDa:=qqh (show Below W2.heap.size W2 va from((aD (Below.refl W2.heap.size W2)).alloc (Nat.le_refl _) _).trans (hda.mono ((aD (Below.refl W2.heap.size W2)).alloc (Nat.le_refl _) _).size));have HOa:=qqh (Rd.cy hoa);have HZa:=qqh (show ai va W2.heap.size 32 #[.int .i64 0,.int .i64 0] from(ai.new W2.drew 32 #[.int .i64 0,.int .i64 0]).below hda (ai.new W2.drew 32 #[.int .i64 0,.int .i64 0]).lt);clear hoa hda;(try dsimp only);refine hK.out _ _ ?_ (fun bH=>?_);exact HC.out _ HDa.out;clear hK K;(try simp only [zp,za,z0,zs]);refine aG (i:=2) (o:=⟨some 19,_,_,_,_,_⟩) (by kernel_rfl) rfl (fun K hK=>?_);go_simp;go_at_call 15;refine(dY.out va HDa.out Da ka hka HOa.out).mono ?_;rintro e ga ⟨⟨Ba,ma,qa,rfl,zv⟩,hba⟩;have HGa:=qqh (show Below W2.heap.size W2 ga from(HDa.out).trans (hba.mono (HDa.out).size));have HRa:=qqh zv.of;have HFa:=qqh (HZa.out.below hba HZa.out.lt);clear zv hba;(try dsimp only);refine hK.out _ _ ?_ (fun bH=>?_);exact HC.out _ HGa.out;clear hK K;(try simp only [zp,za,z0,zs]);apply tp 3 16 rfl (by kernel_rfl) (fun _ _ _ h=>h) (by rfl)
  ·intro wq _;go_simp;(try with_reducible rfl)
  (try simp only [zp,za,z0,zs]);apply tp 4 20 rfl (by kernel_rfl) (fun _ _ _ h=>h) (by rfl)
  ·intro wq _;go_simp;(try with_reducible rfl)
  (try simp only [zp,za,z0,zs]);apply tp 5 21 rfl (by kernel_rfl) (fun _ _ _ h=>h) (by rfl)
  ·intro wq _;go_simp;(try with_reducible rfl)
  (try simp only [zp,za,z0,zs]);apply tp 7 5 rfl (by kernel_rfl) (fun _ _ _ h=>h) (by rfl)
  ·intro wq _;go_simp;(try with_reducible rfl)
  (try simp only [zp,za,z0,zs]);refine aA (i:=8) (by kernel_rfl) rfl (by kernel_rfl) (fun K hK=>?_);have z0:=HFa.out.frozen 0;have z1:=(HFa.out.put 0 (.int .i64 0)).frozen 1;have z2:=HFa.out.cell 0;have z3:=(HFa.out.put 0 (.int .i64 0)).cell 1;go_simp;(try dsimp only);refine hK.out _ _ ?_;clear hK K;refine aJ (by kernel_rfl) ?_ _;go_simp;go_wp2_with fail;go_meet;rw [Dc HFa.out rfl,Dc HFa.out rfl];exact⟨Ba,ma,qa,W2.heap.size,rfl,rfl,HRa.out,HFa.out,HGa.out⟩
 obtain⟨D,m,d,G,rfl,rfl,hrd,TW,hbc⟩:=hcut;have hm:m=4:=hrd.len.symm;subst hm;obtain⟨b,off,rfl,eX,Aj⟩:=hrd.2 (by decide);have td:(convert 26 9 (.slice (some ⟨b,off,none⟩) 4 d)).run Tryz.prog wc=.ok (.string ⟨#[89,88,66,195,137]⟩) wc:=by
  rw [run_convert_runes (P:=Tryz.prog) wc 26 9 21 ⟨b,off,none⟩ 4 d [89,88,66,201] (by simp) Tryz.underlying26 Tryz.underlying21 Tryz.underlying9 ?_]
  ·rw [show([89,88,66,201]:List Int).take 4 = [89,88,66,201] from rfl,alive_f4]
  intro j hj;rw [j9];refine Aj j _ ?_;rw [ey,List.getElem?_eq_getElem hj,List.getD_eq_getElem?_getD,List.getElem?_eq_getElem hj];rfl
 have Yo:=qqh (bG.out.trans (hbc.mono bG.out.size));have g0:=TW.cell 0;have g1:=(ai.below fm.out hbc fm.out.lt).cell 0;have g2:=(ai.below mZ.out hbc mZ.out.lt).cell 0;clear hrd TW hbc Aj s0 s1 s2 HC dY sC oo mZ fm HDE;go_wp2_with fail;go_ret;exact⟨rfl,Yo.out⟩
end Go.Proofs.YthgkedoildcbcaaGreatDoor
namespace Go.Proofs.YthgkedoildcbcaaGreatDoor
open Go.RowKit
/-- From b on to e the links' pieces stand one behind the other. -/
def srcL:List ep→Int→Int→Prop
  | [],b,e=>b=e
  | x::L,b,e=>x.src=b∧srcL L x.upto e
theorem src_run {l:List aj} (hs:ju l=true):∀ (left:Nat) (done rest:List Int) (s p src:Nat),(bC l left done rest s p).2=0→srcL (cI l src (cY l left done rest)) src ((src:Int)+rest.length):=by
 intro left;induction left with
 | zero=>
  intro done rest s p src h;cases rest with
  | nil=>rw [fQ];simp [cI,srcL]
  | cons z rest=>rw [jz l done s p (by simp)]at h;cases h
 | succ left ih=>
  intro done rest s p src h;cases rest with
  | nil=>rw [fQ];simp [cI,srcL]
  | cons z rest=>
   rcases fW l (done++z::rest) done.length with jt | ⟨k,r,jt,hk,nZ⟩
   ·rw [iQ jt]at h;rw [jd jt,cI];have h2:=ih _ _ _ _ (src+jG l (-1)) h;refine⟨by rw [(pQ l src _).1],?_⟩;rw [(pQ l src _).1];have h3:jG l (-1)=1:=rfl;rw [h3]at h2 ⊢;rw [List.length_cons];show srcL _ ((src:Int)+1) ((src:Int)+((rest.length+1:Nat):Int));have e1:((src+1:Nat):Int)=(src:Int)+1:=(by omega);have e2:((src+1:Nat):Int)+(rest.length:Int)=(src:Int)+((rest.length+1:Nat):Int):=(by omega);rw [e1]at h2;rw [e1]at e2;rw [← e2];exact h2
   by_cases x7:4000<done.length+(r.target++(z::rest).drop r.source.length).length
   ·rw [iL jt hk x7]at h;cases h
   have G7:=yA hs hk;have hln:=rq (xz nZ);rw [iO jt hk x7,List.take_left' G7.symm,List.drop_left' G7.symm]at h;rw [i4 jt hk,List.take_left' G7.symm,List.drop_left' G7.symm,cI];have hl:=(pU hk src (done.length:Int)).1;have h2:=ih _ _ _ _ (src+jG l k) h;have h3:jG l (k:Int)=r.source.length:=(pU hk src (done.length:Int)).2;refine⟨by rw [hl],?_⟩;rw [hl];rw [h3]at h2 ⊢;show srcL _ ((src:Int)+r.source.length) ((src:Int)+((z::rest).length:Int));rw [List.length_drop]at h2;have e1:((src+r.source.length:Nat):Int)=(src:Int)+r.source.length:=(by omega);have e2:((src+r.source.length:Nat):Int)+(((z::rest).length - r.source.length:Nat):Int)=(src:Int)+((z::rest).length:Int):=(by omega);rw [e2,e1]at h2;exact h2
theorem chain_last:∀ (L:List ep) (x:ep) (b e:Int),lC (L++[x]) b e→x.fin=e:=by
 intro L;induction L with
 | nil=>intro x b e h;exact h.2.2
 | cons y L ih=>intro x b e h;exact ih x _ e h.2.2
theorem src_last:∀ (L:List ep) (x:ep) (b e:Int),srcL (L++[x]) b e→x.upto=e:=by
 intro L;induction L with
 | nil=>intro x b e h;exact h.2
 | cons y L ih=>intro x b e h;exact ih x _ e h.2
theorem found_whole {L:List ep} {fC:List Int} {n:Int} (hne:L ≠ []) (h1:lC L 0 fC.length) (h2:srcL L 0 n):(0,n)∈kA fC fC L:=by
 obtain⟨M,y,hMy⟩:∃ M y,L=M++[y]:=by
  rcases List.eq_nil_or_concat L with h | ⟨M,y,h⟩;exact absurd h hne;exact⟨M,y,by rw [h,List.concat_eq_append]⟩
 have hf:=chain_last M y 0 fC.length (by rw [← hMy];exact h1);have hu:=src_last M y 0 n (by rw [← hMy];exact h2);have hy:y∈L:=(by rw [hMy];simp);cases L with
 | nil=>exact absurd rfl hne
 | cons x ys=>
  rw [tf];refine List.mem_append_left _ (List.mem_flatMap.2 ⟨y,hy,?_⟩);unfold qK;have hb:x.Cd=0:=h1.1;have hs:x.src=0:=h2.1;rw [hb,hf,hs,hu,if_pos]
  ·simp
  simp [vS]
theorem run_right {l:List aj} (hl:∀ r∈l,r.target.all bg=true):∀ (left:Nat) (done rest:List Int) (s p:Nat),done.all bg=true→rest.all bg=true→(bC l left done rest s p).1.text.all bg=true:=by
 intro left;induction left with
 | zero=>
  intro done rest s p h1 h2;cases rest with
  | nil=>rw [fI];exact h1
  | cons z rest=>rfl
 | succ left ih=>
  intro done rest s p h1 h2;cases rest with
  | nil=>rw [fI];exact h1
  | cons z rest=>
   rw [bC];have h2':=h2;rw [List.all_cons,Bool.and_eq_true]at h2';split;exact ih _ _ _ _ (by rw [List.all_append,h1,List.all_cons,h2'.1];rfl) h2'.2;split;rfl;rename_i r hr;split;rfl;have h3:(r.target++(z::rest).drop r.source.length).all bg=true:=by
    rw [List.all_append,hl r (List.mem_of_getElem? hr)];exact List.all_eq_true.2 fun x hx=>List.all_eq_true.1 h2 x (List.mem_of_mem_drop hx)
   refine ih _ _ _ _ ?_ ?_
   ·rw [List.all_append,h1];exact List.all_eq_true.2 fun x hx=>List.all_eq_true.1 h3 x (List.mem_of_mem_take hx)
   exact List.all_eq_true.2 fun x hx=>List.all_eq_true.1 h3 x (List.mem_of_mem_drop hx)
theorem right_bad {t:List Int} (h:cz t=false):t.all bg=true:=by
 unfold cz at h;refine List.all_eq_true.2 fun x hx=>?_;have:=List.any_eq_false.1 h x hx;simpa using this
theorem bad_right {t:List Int} (h:t.all bg=true):cz t=false:=by
 unfold cz;refine List.any_eq_false.2 fun x hx=>?_;rw [List.all_eq_true.1 h x hx];decide
theorem targets_right {l:List aj} (h:(cT l).1=0):∀ r∈l,r.target.all bg=true:=by
 intro r hr;unfold cT at h;by_cases h2:200<l.length
 ·rw [if_pos h2]at h;cases h
 rw [if_neg h2]at h;have h3:=kL l 0 h r hr;unfold jR at h3;by_cases h4:cL ((ee r).map jY)≠0
 ·rw [if_pos h4]at h3;exact absurd h3 h4
 rw [if_neg h4]at h3;unfold oh at h3;by_cases h5:r.source.length=0
 ·rw [if_pos h5]at h3;cases h3
 rw [if_neg h5]at h3;by_cases h6:20<r.target.length
 ·rw [if_pos h6]at h3;cases h3
 rw [if_neg h6]at h3;by_cases h7:cz r.target=true
 ·rw [if_pos h7]at h3;cases h3
 exact right_bad (by simpa using h7)
theorem runRef_check {l:List aj} {t:List Int} (h:(cN l t).2.1=0):(jB l t).1=0:=by
 unfold cN at h;by_cases h1:(jB l t).1=0;exact h1;rw [if_pos h1]at h;exact absurd h h1
theorem top_short {l:List aj} {t:List Int} (h:(cN l t).2.1=0):(cN l t).1.text.length≤4000:=by
 have hc:=runRef_check h;obtain⟨_,ht⟩:=xL hc;have h0:=oI hc h;have ho:(cN l t).1=(bC l (8*t.length+40) [] t 0 0).1:=by
  unfold cN jV;rw [if_neg (fun h2=>h2 hc),if_neg (fun h2=>h2 h0)]
 rw [ho];have:=(mV ht).1;exact nM l _ [] t 0 0 (by simpa using this)
/-- WHAT CAME OF A TEXT IS FOUND IN IT. -/
theorem top_found {l:List aj} {t:List Int} (h:(cN l t).2.1=0) (hne:(cN l t).1.text.length≠0) :
    (DI l t (cN l t).1.text).2.1=8∨(DI l t (cN l t).1.text).2.1=5∨((DI l t (cN l t).1.text).2.1=0∧(0,(t.length:Int))∈(DI l t (cN l t).1.text).1):=by
 have hc:=runRef_check h;obtain⟨hw,ht⟩:=xL hc;have h0:=oI hc h;have ho:(cN l t).1=(bC l (8*t.length+40) [] t 0 0).1:=by
  unfold cN jV;rw [if_neg (fun h2=>h2 hc),if_neg (fun h2=>h2 h0)]
 have hA:=uf l t;rw [if_neg (fun h2=>h2 hc)]at hA;have GB:=DI.eq_1 l t (cN l t).1.text;by_cases h1:(dW l).2.1=0
 ·rw [if_neg (fun h2=>h2 h1),if_neg (fun h2=>h2 h)]at hA;cases hs:ju l
  ·rw [if_pos hs]at hA;left;rw [GB,hA];rfl
  rw [if_neg (by rw [hs];decide)]at hA;rw [hA,if_neg (fun h2=>h2 rfl)]at GB;have hch:=tV hs _ [] t 0 0 0 h0;have hsr:=src_run hs _ [] t 0 0 0 h0;have S8:(cN l t).1.text.all bg=true:=by
   rw [ho];refine run_right (targets_right hw) _ _ _ _ _ rfl (right_bad ?_);unfold Go.Proofs.YthgkedoildcbcaaGreatDoor.cP at ht;by_cases h4:4000<t.length
   ·rw [if_pos h4]at ht;cases ht
   rw [if_neg h4]at ht;cases hb:cz t;rfl;rw [hb]at ht;cases ht
  have hln:=top_short h;have nT:Go.Proofs.YthgkedoildcbcaaGreatDoor.cP (cN l t).1.text=0:=by
   unfold Go.Proofs.YthgkedoildcbcaaGreatDoor.cP;rw [if_neg (by omega),if_neg (by rw [bad_right S8];decide)]
  rw [if_neg (fun h2=>h2 nT),if_neg hne]at GB;right;right;rw [GB];refine⟨rfl,?_⟩;have yo:cI l 0 (gv l t) ≠ []:=by
   intro he;unfold gv at he;rw [he]at hch;have hz:(([]:List Int).length:Int)=((bC l (8*t.length+40) [] t 0 0).1.text.length:Int):=hch;rw [← ho]at hz;have yW:(0:Int)=((cN l t).1.text.length:Int):=hz;exact hne (by omega)
  refine found_whole yo ?_ ?_
  ·rw [ho];exact hch
  have e:(((0:Nat):Int)+(t.length:Int))=(t.length:Int):=(by omega);rw [← e];exact hsr
 rw [if_pos h1]at hA;have h5:(dW l).2.1=5:=by
  unfold dW at h1 ⊢;rw [if_neg (fun h2=>h2 hw)]at h1 ⊢;by_cases h6:400<(gX l (bf l)).length
  ·rw [if_pos h6]
  rw [if_neg h6]at h1;exact absurd rfl h1
 right;left;rw [GB,hA,if_pos h1];exact h5
end Go.Proofs.YthgkedoildcbcaaGreatDoor
namespace Go.Proofs.YthgkedoildcbcaaGreatDoor
open Go.RowKit
def TfRel (W:World) (H:List (Int × Int)) (k:Int) (j:Value) (wr:World):Prop:=∃ q:Nat,q≤H.length∧j=.int .i64 (q:Int)∧(0,k)∉H.take q∧Below W.heap.size W wr
theorem shot_get {l:List (Int × Int)} {k:Nat} {x:Int × Int} (h:l[k]? = some x):(aS l)[k*2]? = some (.int .i64 x.1)∧(aS l)[k*2+1]? = some (.int .i64 x.2):=by
 induction l generalizing k with
 | nil=>simp at h
 | cons y l ih=>
  cases k with
  | zero=>simp at h;subst h;exact⟨rfl,rfl⟩
  | succ k=>
   obtain⟨h0,h1⟩:=ih (k:=k) (by simpa using h);rw [show(k+1)*2=k*2+1+1 by omega];exact⟨h0,h1⟩
theorem top_found_walk (file text:ByteArray) (hf:file.size≤1099511627776) (ht:text.size≤1099511627776) (w:World) :
    Calls Tryz.prog 3 #[.string file,.string text] w fun e w'=>e=.returned (.bool true)∧Below w.heap.size w w':=by
 have QE:=qqh (fun(W:World)=>top_single file hf W);unfold SinglePost at QE;have hln:=oY text;have HDE:=qqh (fun(W:World)=>qZ text W ht);unfold Bg at HDE;generalize bJ text 0=T at *;have hT:T.length≤1099511627776:=(by omega);clear hln;go_enter Tryz.func3,Tryz.ntmps3;go_wp2_with fail;refine(top_alive w).mono ?_;rintro e w1 ⟨rfl,aW⟩;have b7:=qqh aW;clear aW;go_wp2_with fail;refine(QE.out w1).mono ?_;rintro e w2 ⟨⟨A,n,c,B,m,d,ok,rfl,hok⟩,bu⟩;have bG:=qqh (b7.out.trans (bu.mono b7.out.size));clear bu b7 QE;cases ok
 ·go_wp2_with fail;go_ret;exact⟨rfl,bG.out⟩
 obtain⟨⟨l,hl,hn⟩,_⟩:=hok rfl;have Qc:=qqh hl;clear hl hok;go_wp2_with fail;refine(HDE.out w2).mono ?_;rintro e w3 ⟨v,rfl,ho,bN⟩;obtain⟨D,k,rfl,hk⟩:=aI ho;have sy:=qqh (Rd.cy ho);have bL:=qqh (bG.out.trans (bN.mono bG.out.size));have TI:=qqh (Qc.out.keep (af.any bN) (fun _ _=>aO.keep (af.any bN)));have hT3:T.length≤maxLen:=(by simp only [maxLen];omega);have lZ:=qqh (rW (fun _=>True) l A n c T D T.length k w3 hn TI.out hT3 sy.out);unfold tU at lZ;clear ho bN Qc bG HDE;go_wp2_with fail;refine lZ.out.mono ?_;rintro e w4 ⟨⟨A3,n3,c3,rfl,lF,afM⟩,hb4⟩;have HTF:=qqh (@top_found l T);have HTS:=qqh (@top_short l T);obtain⟨⟨fC,s3,p3⟩,g1,g2,hC⟩:∃ o g1 g2,cN l T=(o,(g1,g2)):=⟨_,_,_,rfl⟩;rw [hC]at HTF HTS lF ⊢;dsimp only at HTF HTS lF ⊢;have hba:=((Below.refl w4.heap.size w4).alloc (Nat.le_refl _) (.cells #[.slice A3 n3 c3,.int .i64 s3,.int .i64 p3] 29)).alloc (by simp) (.cells #[.int .i64 g1,.int .i64 g2] 32);have dL:=hb4.trans (hba.mono hb4.size);have ek:=qqh (bL.out.trans (dL.mono bL.out.size));have ox:=qqh (show ai ((w4.alloc (.cells #[.slice A3 n3 c3,.int .i64 s3,.int .i64 p3] 29)).alloc (.cells #[.int .i64 g1,.int .i64 g2] 32)) w4.heap.size 29 #[.slice A3 n3 c3,.int .i64 s3,.int .i64 p3] from(ai.new w4 _ _).alloc _);have iK:=qqh (show ai ((w4.alloc (.cells #[.slice A3 n3 c3,.int .i64 s3,.int .i64 p3] 29)).alloc (.cells #[.int .i64 g1,.int .i64 g2] 32)) (w4.heap.size+1) 32 #[.int .i64 g1,.int .i64 g2] by simpa using ai.new (w4.alloc (.cells #[.slice A3 n3 c3,.int .i64 s3,.int .i64 p3] 29)) 32 #[.int .i64 g1,.int .i64 g2])
 have S7:=qqh (lF.keep (af.any hba)).of;have HT4:=qqh (Rd.more (Rd.below sy.out dL) dL.size);have Wj:=qqh (TI.out.keep (af.any dL) (fun _ _=>aO.keep (af.any dL)));have P5:=qqh (show w.heap.size≤w4.heap.size+1 from Nat.le_trans (Nat.le_trans bL.out.size hb4.size) (Nat.le_succ _));have hTN:fC.length=n3:=(by have:=lF.1;rw [runeCells_length]at this;omega);clear hb4 lF hba dL hC TI bL sy lZ;go_upto_region 8 with fail;generalize (w4.alloc (.cells #[.slice A3 n3 c3,.int .i64 s3,.int .i64 p3] 29)).alloc (.cells #[.int .i64 g1,.int .i64 g2] 32)=W4 at *;have q0:=iK.out.cell 0;have o0:=ox.out.cell 0;by_cases hg:g1=0
 ·subst hg;by_cases hz:n3=0
  ·subst hz;go_wp2_with fail;go_ret;exact⟨rfl,ek.out⟩
  have hz0:((n3:Int) == 0)=false:=(by rw [beq_eq_false_iff_ne];omega);have QC:=qqh (HTF.out rfl (by rw [hTN];exact hz));have RW:n3≤maxLen:=(by have:=HTS.out rfl;simp only [maxLen];omega);have KG:=qqh (Au (fun _=>True) l A n c T fC D A3 T.length k n3 c3 W4 hn Wj.out hT3 HT4.out RW S7.out);unfold oP at KG;clear HTF HTS Wj HT4 S7;go_upto_region 10 with fail;go_wp2_with fail;refine KG.out.mono ?_;rintro e w5 ⟨⟨A5,n5,c5,rfl,FZ,hn5⟩,ez⟩;have kZ:=qqh (ai.below iK.out ez iK.out.lt);obtain⟨H,e1,e2,hF⟩:∃ H e1 e2,DI l T fC=(H,(e1,e2)):=⟨_,_,_,rfl⟩;rw [hF]at QC FZ ⊢;dsimp only at QC FZ ⊢;have hlt:=iK.out.lt;have Ua:=qqh (FZ.keep ((af.setCell (p:=⟨w4.heap.size+1,0,none⟩) (X':=fun b=>W4.heap.size≤b) (.int .i64 e1) (fun b h=>by simp only;omega) (fun b h _=>h)).trans (af.setCell (p:=⟨w4.heap.size+1,1,none⟩) (X':=fun b=>W4.heap.size≤b) (.int .i64 e2) (fun b h=>by simp only;omega) (fun b h _=>h))));have hB5:=ek.out.trans (ez.mono ek.out.size);have gx:=qqh ((hB5.setCell (p:=⟨w4.heap.size+1,0,none⟩) (P5.out) (.int .i64 e1)).setCell (p:=⟨w4.heap.size+1,1,none⟩) (P5.out) (.int .i64 e2));have tN:=qqh ((kZ.out.put 0 (.int .i64 e1)).put 1 (.int .i64 e2));have f0:=kZ.out.frozen 0;have k0:=kZ.out.cell 0;have f1:=(kZ.out.put 0 (.int .i64 e1)).frozen 1;have k1:=(kZ.out.put 0 (.int .i64 e1)).cell 1;clear FZ ez hB5 q0 o0 iK ox ek hlt;go_upto_region 11 with fail;clear f0 k0 f1 k1 kZ;generalize (w5.setCell ⟨w4.heap.size+1,0,none⟩ (.int .i64 e1)).setCell ⟨w4.heap.size+1,1,none⟩ (.int .i64 e2)=W6 at *;have q0:W6.cell? ⟨w4.heap.size+1,0,none⟩=some (.int .i64 e1):=tN.out.cell 0;rcases QC.out with h8 | h5 | ⟨h0,hmem⟩
  ·subst h8;go_wp2_with fail;go_ret;exact⟨rfl,gx.out⟩
  ·subst h5;go_wp2_with fail;go_ret;exact⟨rfl,gx.out⟩
  subst h0;have hHn:H.length=n5:=(by have:=Ua.out.1;rw [jD]at this;omega);have HMEM:=qqh hmem;clear hmem QC tN;go_wp2_with fail;go_loopw [62] (TfRel W6 H (T.length:Int)) (fun j _=>H.length - (intOf j).toNat);(case atStart=>exact⟨0,Nat.zero_le _,rfl,by simp,Below.refl _ _⟩);obtain⟨q,hq,rfl,hni,hb⟩:=hrel;have eK:=qqh (gx.out.trans (hb.mono gx.out.size));by_cases hlt:q<n5
  ·obtain⟨x,hx⟩:∃ x,H[q]? = some x:=⟨_,List.getElem?_eq_getElem (by omega)⟩;obtain⟨b1,o1,rfl,_,LN,Aj⟩:=Ua.out.2 (by omega);obtain⟨hc0,hc1⟩:=shot_get hx;have c0:=(hb.cell (p:=⟨b1,o1+q*2,none⟩) LN).trans (Aj _ _ hc0);have c1:=(hb.cell (p:=⟨b1,o1+q*2+1,none⟩) LN).trans (Aj (q*2+1) _ hc1);have hg:decide ((q:Int)<(n5:Int))=true:=decide_eq_true (by omega);have Q5:(0:Int)≤(q:Int):=(by omega);have hq1:(q:Int)<(n5:Int):=(by omega);go_wp2_with fail
   ·go_ret;exact⟨rfl,eK.out.alloc eK.out.size _⟩
   all_goals
     rename_i hne
     have hni2:(0,(T.length:Int))∉H.take (q+1):=by
       rw [nx hx]
       intro hm
       rcases List.mem_append.1 hm with hm | hm
       · exact hni hm
       · rw [List.mem_singleton]at hm
         exact hne (by rw [← hm])
     exact⟨⟨q+1,by omega,by rw [Int.natCast_add];rfl,hni2,hb.alloc hb.size _⟩,by simp [intOf];omega⟩
  have hqn:q=H.length:=(by omega);exact absurd HMEM.out (by rw [hqn,List.take_length]at hni;exact hni)
 go_wp2_with fail;go_ret;exact⟨rfl,ek.out⟩
end Go.Proofs.YthgkedoildcbcaaGreatDoor
namespace Go.Proofs.YthgkedoildcbcaaGreatDoor
open Go.RowKit Go.ChangeShapes Go.WideShapes Go.ChangeAt Go.Shelf
open Go.ChangeMaps (open_string shut_string)
theorem topfoundwalk_reads (os:Os) {H:Type} (enc:TypeId × Value→H) :
    (Rows.OpenSpec.upto Rows.topFoundSpec).preRow enc Tryz.prog Tryz.f3 Rows.topFoundUptoRow.domain false Rows.topFoundUptoRow.laid ((Kx os).forCall (fun _ _=>0) ⟨#[],#[.string ⟨#[]⟩,.string ⟨#[]⟩],[]⟩).memory #[.string ⟨#[]⟩,.string ⟨#[]⟩]:=by
 have hw:(DataW.whole enc Tryz.prog ((Kx os).forCall (fun _ _=>0) ⟨#[],#[.string ⟨#[]⟩,.string ⟨#[]⟩],[]⟩).memory Tryz.f3.params.toList Rows.topFoundSpec.vars false #[.string ⟨#[]⟩,.string ⟨#[]⟩].toList 8).map (fun x=>(x.1,x.2.1)) =
     some ([.lit (.string []),.lit (.string [])],[]):=by kernel_rfl
 obtain⟨⟨x1,x2,x3⟩,hx,hx1⟩:=Option.map_eq_some_iff.1 hw;simp only [Prod.mk.injEq]at hx1;obtain⟨rfl,rfl⟩:=hx1;exact OpenSpec.preRow_of_cond 8 hx (by kernel_rfl) (fun k hk=>by cases hk;kernel_rfl) (by kernel_rfl) (CJ os _)
theorem topfoundwalk_lifted (os:Os) (started:os.Started) (H:Type) (enc:TypeId × Value→H) (F:Stop.Interp) :
    ReturnsInHanded {} Tryz.checked os 3 .any ((Rows.OpenSpec.upto Rows.topFoundSpec).preRow enc Tryz.prog Tryz.f3 Rows.topFoundUptoRow.domain false Rows.topFoundUptoRow.laid) (((Rows.OpenSpec.upto Rows.topFoundSpec).at F).post enc Tryz.prog Tryz.f3 false true false false):=by
 refine returnsInHanded_of_row (C:=Tryz.checked) (s:=(Rows.OpenSpec.upto Rows.topFoundSpec)) Du started (by kernel_rfl) Tryz.func3
   (witness_row_atRef (enc:=enc) (C:=Tryz.checked) false (Kx os) #[.string ⟨#[]⟩,.string ⟨#[]⟩] rfl (by kernel_rfl) (by kernel_rfl) (by kernel_rfl) (topfoundwalk_reads os enc)) ?_
 intro W base args ds gs before hval hW _ hcond _ _ _ _;have hk:=hcond _ rfl;have hW':=hW;obtain⟨p,q,Sw,hV,rfl,hfz,hnd⟩:=hW;have hA:DataW.TrodAll enc Tryz.prog W 0 (fun _=>true) true Tryz.f3.params.toList args.toList ds p:=Sw;have CV:∀ (j:Nat) t v,Tryz.f3.params[j]? = some t→args[j]? = some v→Value.okWide Tryz.prog W .any base t v:=hval;rw [Tryz.params3]at hA CV;obtain⟨v0,v1,d0,d1,p0,p1,rfl,rfl,rfl,h0,h1⟩:=trodAll_two hA;obtain⟨rfl,rfl⟩:=trodVars_none hV;obtain⟨s0,rfl,rfl,rfl,hs0⟩:=open_string Tryz.underlying9 (CV 0 _ v0 rfl rfl) h0;have hb0:=uv (H:=H) s0;obtain⟨s1,rfl,rfl,rfl,hs1⟩:=open_string Tryz.underlying9 (CV 1 _ v1 rfl rfl) h1;have aW:=uv (H:=H) s1;have hbk:=wQ hk;simp only [List.append_nil,Rows.uptoBulkAll]at hbk;refine(top_found_walk s0 s1 (by omega) (by omega) W).mono fun e W' ⟨he,hb⟩=>⟨_,he,?_⟩;exact Ej Tryz.underlying4 rfl rfl C7 (by kernel_rfl) hW' rfl hb
theorem topfoundwalk_said:Rows.TopFoundUptoSaid :=
  OpenClaim.holds_of_cond 3 Tryz.f3 rfl rfl rfl rfl rfl rfl rfl ⟨rfl,rfl,rfl,rfl,rfl⟩ rfl rfl rfl rfl rfl (by kernel_rfl) Tryz.func3 topfoundwalk_joined
    (of_decide_eq_true (by kernel_rfl)) (by unfold Func.isWrapper;first | (rw [if_pos (by decide +kernel)];kernel_rfl) | (rw [if_neg (by decide +kernel)];exact⟨rfl,rfl⟩))
    (fun os started H enc _ F=>by rw [OpenClaim.pre_eq_preRow];exact topfoundwalk_lifted os started H enc F)
theorem topfoundwalk_plain (f:FuncId) (fn:Func) (hf : Tryz.pinned.checked.prog.funcNamed "scriptshift/scripttop.TopFound" = some f) (hfn : Tryz.pinned.checked.prog.funcs[f]? = some fn) :
    true = Tryz.pinned.checked.prog.looks []∧∀ (j:Nat) t,fn.params[j]? = some t → Tryz.pinned.checked.prog.wantsStandIn t=false:=by
 obtain rfl:f = 3:=Option.some.inj ((show Tryz.prog.funcNamed "scriptshift/scripttop.TopFound" = some 3 by kernel_rfl).symm.trans hf) |>.symm;obtain rfl:fn = Tryz.f3:=(Option.some.inj (Tryz.func3.symm.trans hfn)).symm;refine⟨by kernel_rfl,fun j t ht=>?_⟩;have h:(Tryz.f3.params.toList.all fun t=>!Tryz.prog.wantsStandIn t)=true:=(by kernel_rfl);have h2:=List.all_eq_true.1 h t (by simpa using Array.mem_of_getElem? ht);have h3 : Tryz.prog.wantsStandIn t=false:=(by simpa using h2);exact h3
/-- THE CARD. -/
theorem topfoundwalk_card:Rows.TopFoundUptoCardSaid :=
  Claim7.holds_tied_plain_at .later [] _ _ _ _ topfoundwalk_said (fun _ h=>by cases h) (by kernel_rfl) (fun _ h=>by cases h) topFoundUpto_row_tie rfl ⟨rfl,rfl⟩ (by kernel_rfl) rfl topfoundwalk_plain (by kernel_rfl)
end Go.Proofs.YthgkedoildcbcaaGreatDoor
