/- RuneIn + NormC + StabW + StabR + StabS + StabT + NormSort -/
import Derived.Test.YtblinekbpcdbfaaGreatDoorShelfM
import Derived.Test.YtblinekbpcdbfaaGreatDoorZv9
import Derived.Test.YtblinekbpcdbfaaGreatDoorZv7
import Derived.Deep.QuietTactic
import Derived.BigQuiet
import Derived.Laws.Runes
import Derived.Deep.DeepCutAuto
import Derived.Deep.CutBlock
import Derived.WalkMore
import Derived.Laws.DeepStrings4
import Derived.Test.YtblinekbpcdbfaaGreatDoorZv8
import Derived.Test.YtblinekbpcdbfaaGreatDoorZv29
import Derived.BigRegion
set_option maxHeartbeats 6400000
set_option maxRecDepth 100000
namespace Go.Proofs.YtblinekbpcdbfaaGreatDoor
open Go.RowKit
theorem xk (s:ByteArray) (r:Int) (w:World) (hs:∀ b∈s.data.toList,b.toNat<128) (h4:4≤s.size) (WC:s.size≤1000) (hv:Utf8.valid r=true) (h128:128≤r) (hne:r≠65533) :
    Calls Tryz.prog 139 #[.string s,.int .i32 r] w fun e w'=>e=.returned (.int .i64 (-1))∧∃ k,w'=w.drewN k:=by
 obtain⟨c2,c4,GK⟩:=encode_facts r hv h128;have hvr:Lib.validRune r=true:=by
  have:=validRune_eq r;rw [hv]at this;unfold Lib.validRune;unfold validRune at this;simpa using this.symm
 have HV:=qqh (fun(W:World)=>show Calls Tryz.prog 73 #[.int .i32 r] W fun e w'=>e=.returned (.bool true)∧w'=W by
  have:=Tryz.utf8_ValidRune r W;rw [hvr]at this;exact this)
 generalize hc:Utf8.encode r=c at *;have HC:=qqh hc;obtain⟨z,hz⟩:∃ z,c.size=z+1:=⟨c.size - 1,by omega⟩;have jc:128≤jP c (c.size - 1):=by
  rw [← oh c (c.size - 1) (by omega)];exact Int.ofNat_le.2 (GK (by omega))
 rw [show c.size - 1=z by omega]at jc;rw [hz]at c2 c4;clear GK hc hv hvr;have hzs:z<s.size:=(by omega);have ZE:z<c.size:=(by omega);have hbs:=oh s z hzs;have hbc:=oh c z ZE;have hsz:jP s z<128:=(by rw [← hbs];exact Int.ofNat_lt.2 (hs _ (Array.getElem_mem_toList (xs:=s.data) hzs)));have hcmp:¬ jP s z=jP c z:=(by omega);have HI:=qqh (fun(W:World)=>show Calls Tryz.prog 158 #[.string (s.extract (z+1) s.size),.int .u8 (jP c z)] W fun e w'=>e=.returned (.int .i64 (-1))∧∃ k,w'=W.drewN k by
  have:=Tryz.strings_IndexByte (s.extract (z+1) s.size) (jP c z) W;rw [← Lib.firstIdx_eq,firstIdx_ascii s _ _ _ hs (by
   unfold jP at jc ⊢;simp only [Int.toNat_natCast];have:=(c.get! z).toNat_lt;simp;omega)]at this
  exact this.mono fun e w' h=>⟨h.1,0,h.2⟩)
 have sZ:∀ W:World,(convert 21 9 (.int .i32 r)).run Tryz.prog W=.ok (.string c) W:=fun W=>by
  rw [← HC.out];exact run_convert_int_string W _ _ _ _ (by rw [Tryz.underlying21];rfl) Tryz.underlying9
 have hw1:IntKind.i64.wrap ((z:Int)+1)=(z:Int)+1:=wrap_small _ (by omega) (by omega);have tr:(z:Int)+1≤(s.size:Int):=(by omega);have ZY:(0:Int)≤(z:Int)+1:=(by omega);have ht1:((z:Int)+1).toNat=z+1:=(by omega);have Y0:∀ W:World,(Instr.index 9 (.string c) (.int .i64 z)).run Tryz.prog W=.ok (.int .u8 (jP c z)) W:=fun W=>by
  rw [run_index_string W _ c _ _ Tryz.underlying9,dif_pos ⟨by omega,by omega⟩];simp [hbc]
 clear hs;go_enter Tryz.func139,Tryz.ntmps139;have hg1:decide ((0:Int)≤r)=true:=decide_eq_true (by omega);have hg2:decide (r<(128:Int))=false:=decide_eq_false (by omega);go_wp2_with (first | (go_at_call 73;refine(HV.out _).mono ?_;rintro e w1 ⟨rfl,hw⟩;rw [hw]) | fail);go_step3;go_wp2_with fail;go_loopw [9,10] (fun i f wr=>i=.int .i64 z∧f=.int .i64 0∧∃ k,wr=w.drewN k) (fun _ _ _=>0);(case atStart=>exact⟨by go_num,rfl,0,rfl⟩);obtain⟨rfl,rfl,hk⟩:=hrel;have HK:=qqh hk;clear hk;go_wp2_with fail;go_step3;go_wp2_with fail;go_quiet (fail);have Ej:=qqh (show ∃ k,wr.drewN nq=w.drewN k by
  obtain⟨k,e⟩:=HK.out;exact⟨k+nq,by rw [e,World.drewN_drewN]⟩)
 generalize wr.drewN nq=wq at Ej ⊢;go_wp2_with fail;go_quiet (first | (go_at_call 158;exact Calls.quiet_of (HI.out _)));go_wp2_with fail;simp +zetaDelta only [Exit.noGoto,Exit.inBlock,Exit.then];refine bodyPost_ret (v:=.int .i64 (-1)) (by simp [results,Tryz.results139,go_sem]) rfl ⟨rfl,?_⟩;obtain⟨k,e⟩:=Ej.out;exact⟨k+nq,by rw [e,World.drewN_drewN]⟩
theorem ud (s:ByteArray) (w:World) :
    Calls Tryz.prog 139 #[.string s,.int .i32 (-1)] w fun e w'=>e=.returned (.int .i64 (-1))∧w'=w:=by
 have HV:=qqh (fun(W:World)=>show Calls Tryz.prog 73 #[.int .i32 (-1)] W fun e w'=>e=.returned (.bool false)∧w'=W from Tryz.utf8_ValidRune (-1) W);go_enter Tryz.func139,Tryz.ntmps139;go_wp2_with (first | (go_at_call 73;refine(HV.out _).mono ?_;rintro e w1 ⟨rfl,hw⟩;rw [hw]) | fail);go_ret;exact⟨rfl,rfl⟩
def UY (w:World) (s:ByteArray) (wr:World):Prop:=∃ p:Nat,p≤s.size∧wr.heap[w.heap.size]? = some (.stringIter s p)∧Below w.heap.size w wr
theorem decode_ascii (s:ByteArray) (p:Nat) (h:p<s.size) (hs:∀ b∈s.data.toList,b.toNat<128):((Utf8.decode s p).1:Int)≠65533:=by
 have hb:((s.get! p).toNat:Int)<128:=by
  have:=oh s p h;unfold jP at this;rw [← this];exact Int.ofNat_lt.2 (hs _ (Array.getElem_mem_toList (xs:=s.data) h))
 have aX:(s.get! (p+0)).toNat<128:=(by rw [Nat.add_zero];omega);unfold Utf8.decode;simp only [if_pos aX];omega
theorem vZ (s:ByteArray) (w:World) (hs:∀ b∈s.data.toList,b.toNat<128) :
    Calls Tryz.prog 139 #[.string s,.int .i32 65533] w fun e w'=>e=.returned (.int .i64 (-1))∧Below w.heap.size w w':=by
 have HS:=qqh hs;clear hs;go_enter Tryz.func139,Tryz.ntmps139;go_wp2_with fail;go_loopw [5] (fun _ wr=>UY w s wr) (fun _ wr=>s.size - wr.iterPos w.heap.size);(case atStart=>exact⟨0,Nat.zero_le _,World.iter_heap _ _ _,qqb.alloc qql _⟩);obtain⟨p,hp,hit,qf⟩:=hrel;have hz:=qf.size;have qj:=iterPos_of hit;by_cases hlt:p<s.size
 ·have hnext:=fun ty=>Lib.run_next_any_at (P:=Tryz.prog) wr w.heap.size s p ty hit hlt;have hd:=jd s p hlt;have hne:=decode_ascii s p hlt HS.out;have Jf:=Lib.iterAt_heap wr w.heap.size s p (p+(Utf8.decode s p).2) hit;have aT:=Lib.below_iterAt qf qql s (p+(Utf8.decode s p).2);generalize wr.iterAt w.heap.size s (p+(Utf8.decode s p).2)=W1 at *;generalize hr:((Utf8.decode s p).1:Int)=r at *;generalize (Utf8.decode s p).2=k at *;have iX:=qqh (iterPos_of Jf);have Rh:=qqh Jf;have Ta:=qqh qj;clear hit Jf qj hr;go_wp2_with fail;exact⟨⟨p+k,by omega,Rh.out,aT⟩,by rw [iX.out,Ta.out];omega⟩
 have hnext:=fun ty=>Lib.run_next_end_at (P:=Tryz.prog) wr w.heap.size s p ty hit hlt;clear hit qj;go_wp2_with fail;go_ret;exact⟨rfl,qf⟩
theorem any_none {s:ByteArray} {r:Int} (hs:∀ b∈s.data.toList,b.toNat<128) (h:r<0∨128≤r):s.data.toList.any (fun b=>decide ((b.toNat:Int)=r))=false:=by
 rw [List.any_eq_false];intro b hb;have:=hs b hb;simp;omega
theorem Jg {s:ByteArray} {r:Int} (h0:0≤r) (h1:r<128):decide (0≤Lib.indexByte s.data.toList r.toNat.toUInt8)=s.data.toList.any (fun b=>decide ((b.toNat:Int)=r)):=by
 rw [← Lib.firstIdx_eq,firstIdx_nonneg];congr 1;funext b;rw [Bool.eq_iff_iff];simp only [beq_iff_eq,decide_eq_true_eq];have hr:r.toNat.toUInt8.toNat=r.toNat:=(by simp;omega);constructor
 ·intro e;rw [e,hr];omega
 intro e;apply UInt8.toNat_inj.1;rw [hr];omega
theorem pG (s:ByteArray) (r:Int) (w:World) (hs:∀ b∈s.data.toList,b.toNat<128) (h4:4≤s.size) (WC:s.size≤1000) (hr:r = -1∨Utf8.valid r=true) :
    Calls Tryz.prog 124 #[.string s,.int .i32 r] w fun e w'=>e=.returned (.bool (s.data.toList.any fun b=>decide ((b.toNat:Int)=r)))∧Below w.heap.size w w':=by
 by_cases hA:0≤r∧r<128
 ·have:=Tryz.strings_ContainsRune_ascii s r w hA.1 hA.2;rw [Jg hA.1 hA.2]at this;exact this.mono fun e w' h=>⟨h.1,by rw [h.2];exact qqb⟩
 have h0:r<0∨128≤r:=(by omega);rw [any_none hs h0];have HI:=qqh (show Calls Tryz.prog 139 #[.string s,.int .i32 r] w fun e w'=>e=.returned (.int .i64 (-1))∧Below w.heap.size w w' by
  rcases hr with rfl | hv;exact(ud s w).mono fun e w' h=>⟨h.1,by rw [h.2];exact qqb⟩;have h128:128≤r:=by
   rcases h0 with h | h
   ·rw [validRune_eq]at hv;simp [validRune]at hv;omega
   exact h
  by_cases hb:r=65533
  ·rw [hb];exact vZ s w hs
  exact(xk s r w hs h4 WC hv h128 hb).mono fun e w' h=>⟨h.1,by obtain⟨k,e⟩:=h.2;rw [e];exact below_drewN qqb k⟩)
 clear hs hr;go_enter Tryz.func124,Tryz.ntmps124;go_wp2_with fail;refine HI.out.mono ?_;rintro e w1 ⟨rfl,hb⟩;go_wp2_with fail;go_ret;exact⟨rfl,hb⟩
end Go.Proofs.YtblinekbpcdbfaaGreatDoor
namespace Go.Proofs.YtblinekbpcdbfaaGreatDoor
open Go.RowKit Go.Sort
theorem jg (r:Int) (w:World):Calls Tryz.prog 19 #[.int .i32 r] w fun e w'=>e=.returned (.int .i64 (dR r))∧w'=w:=by
 by_cases h:r=807∨r=808∨r=803∨r=768∨r=769∨r=770∨r=771∨r=776∨r=778∨r=780
 ·rcases h with rfl | rfl | rfl | rfl | rfl | rfl | rfl | rfl | rfl | rfl
  all_goals
    go_enter Tryz.func19,Tryz.ntmps19
    go_wp2_with fail
    go_ret
    exact⟨rfl,rfl⟩
 have HV:=qqh (show dR r=0 by
  unfold dR;rw [if_neg (by omega),if_neg (by omega),if_neg (by omega)])
 have q0:(r == 807)=false:=(by rw [beq_eq_false_iff_ne];omega);have q1:(r == 808)=false:=(by rw [beq_eq_false_iff_ne];omega);have q2:(r == 803)=false:=(by rw [beq_eq_false_iff_ne];omega);have q3:(r == 768)=false:=(by rw [beq_eq_false_iff_ne];omega);have q4:(r == 769)=false:=(by rw [beq_eq_false_iff_ne];omega);have q5:(r == 770)=false:=(by rw [beq_eq_false_iff_ne];omega);have q6:(r == 771)=false:=(by rw [beq_eq_false_iff_ne];omega);have q7:(r == 776)=false:=(by rw [beq_eq_false_iff_ne];omega);have q8:(r == 778)=false:=(by rw [beq_eq_false_iff_ne];omega);have q9:(r == 780)=false:=(by rw [beq_eq_false_iff_ne];omega);clear h;go_enter Tryz.func19,Tryz.ntmps19;go_wp2_with fail;go_ret;rw [HV.out];exact⟨rfl,rfl⟩
theorem oz (x:Int) (w:World):Calls Tryz.prog 76 #[.int .i64 x] w fun e w'=>e=.returned (.bool false)∧w'=w:=by
 go_enter Tryz.func76,Tryz.ntmps76;go_wp2;go_ret;simp
def P9 (x y:Int):Int:=if x<y then -1 else if y<x then 1 else 0
theorem OR (x y:Int) (w:World):Calls Tryz.prog 47 #[.int .i64 x,.int .i64 y] w fun e w'=>e=.returned (.int .i64 (P9 x y))∧w'=w:=by
 have HV:=qqh (show P9 x y=if x<y then -1 else if y<x then 1 else 0 from rfl);by_cases h1:x<y
 ·rw [if_pos h1]at HV;go_enter Tryz.func47,Tryz.ntmps47;go_wp2_with fail;refine(oz x _).mono ?_;rintro e w1 ⟨rfl,rfl⟩;go_wp2_with fail;refine(oz y _).mono ?_;rintro e w1 ⟨rfl,rfl⟩;go_wp2_with fail;go_ret;rw [HV.out];exact⟨rfl,rfl⟩
 rw [if_neg h1]at HV;by_cases h2:y<x
 ·rw [if_pos h2]at HV;go_enter Tryz.func47,Tryz.ntmps47;go_wp2_with fail;refine(oz x _).mono ?_;rintro e w1 ⟨rfl,rfl⟩;go_wp2_with fail;refine(oz y _).mono ?_;rintro e w1 ⟨rfl,rfl⟩;go_wp2_with fail;go_ret;rw [HV.out];exact⟨rfl,rfl⟩
 rw [if_neg h2]at HV;go_enter Tryz.func47,Tryz.ntmps47;go_wp2_with fail;refine(oz x _).mono ?_;rintro e w1 ⟨rfl,rfl⟩;go_wp2_with fail;refine(oz y _).mono ?_;rintro e w1 ⟨rfl,rfl⟩;go_wp2_with fail;go_ret;rw [HV.out];exact⟨rfl,rfl⟩
def wS (x y:Int):Int:=P9 (dR x) (dR y)
theorem nV (x y:Int):decide (wS x y<0)=eY x y:=by
 unfold wS P9 eY;by_cases h1:dR x<dR y
 ·rw [if_pos h1];simp [h1]
 rw [if_neg h1];split <;> simp [h1]
theorem gI (x y:Int) (w:World):Calls Tryz.prog 46 #[.int .i32 x,.int .i32 y] w fun e w'=>e=.returned (.int .i64 (wS x y))∧w'=w:=by
 go_enter Tryz.func46,Tryz.ntmps46;go_wp2_with fail;refine(jg x _).mono ?_;rintro e w1 ⟨rfl,rfl⟩;go_wp2_with fail;refine(jg y _).mono ?_;rintro e w1 ⟨rfl,rfl⟩;go_wp2_with fail;refine(OR _ _ _).mono ?_;rintro e w1 ⟨rfl,rfl⟩;go_wp2_with fail;go_ret;exact⟨rfl,rfl⟩
theorem mV:∀ args w,(callFunc 46 args).run Tryz.prog w=.ok (.enter 46 args) w:=enters_of Tryz.func46 (by kernel_rfl) rfl
def Zh (w:World) (blk off a b:Nat) (d:Array Int) (vi:Value) (wr:World):Prop :=
  ∃ (i:Nat) (dk:Array Int),vi=.int .i64 i∧a<i∧i≤b+1∧dk.size=d.size∧aA w blk off dk wr∧insOuter eY a b i dk=insertionSort eY d a b
def ace (w:World) (blk off a i:Nat) (d dk:Array Int) (vj:Value) (wr:World):Prop :=
  ∃ (j:Nat) (dj:Array Int),vj=.int .i64 j∧a≤j∧j≤i∧dj.size=d.size∧aA w blk off dj wr∧insInner eY a j dj=insInner eY a i dk
theorem MN (blk off cap a b:Nat) (d:Array Int) (w:World) (hH:cS w blk off d) (hab:a≤b) (hb:b≤d.size) (hsz:d.size<4611686018427387904) :
    Calls Tryz.prog 97 #[.slice (some ⟨blk,off,none⟩) d.size cap,.int .i64 a,.int .i64 b,.func (.func 46) #[] #[]] w fun e w'=>e=.returned (.tuple #[])∧aA w blk off (insertionSort eY d a b) w':=by
 have HH:=qqh hH;have eg:=mV;clear hH;go_enter Tryz.func97,Tryz.ntmps97;go_wp2;go_loopw [8] (Zh w blk off a b d) (fun vi _=>b+1 - (intOf vi).toNat);(case atStart=>exact⟨a+1,d,by go_num,by omega,by omega,rfl,aA.start HH.out,rfl⟩);obtain⟨i,dk,rfl,hai,hib,lE,hrow,hO⟩:=hrel;have HR:=qqh hrow;have HO:=qqh hO;clear hrow hO;by_cases hlt:i<b
 ·go_wp2;go_loopw [9] (ace w blk off a i d dk) (fun vj _=>(intOf vj).toNat);(case atStart=>exact⟨i,dk,rfl,by omega,qql,lE,HR.out,rfl⟩);obtain⟨j,dj,rfl,haj,hji,hsj,hrow,hI⟩:=hrel;obtain⟨G,hG,eB,gN⟩:=hrow.cells hsj;have dP:=qqh hrow;have HG:=qqh hG;have HI:=qqh hI;clear hrow hG hI;go_wp2;by_cases KZ:a<j
  ·cases hl:eY (G j) (G (j - 1))with
   | true=>
    have hd:eY dj[j]! dj[j - 1]! = true:=(by rw [← HG.out,← HG.out];exact hl);have hc:decide (wS (G j) (G (j - 1))<0)=true:=(nV _ _).trans hl;have HM:=qqh (B6 eY a j dj KZ hd);clear hd hl;go_quiet (first | (go_at_call 46;refine Calls.quiet_of_same (gI _ _ _)));go_wp2;go_region;(all_goals go_wp2)
    all_goals
      refine⟨⟨j - 1,swp dj j (j - 1),by go_num,by omega,by omega,by rw [Sort.swp_size];exact hsj,(dP.out.drewN (nq+1)).swap HG.out (by omega) (by omega),by rw [← HM.out];exact HI.out⟩,by simp only [intOf];omega⟩
   | false=>
    have hd:eY dj[j]! dj[j - 1]! = false:=(by rw [← HG.out,← HG.out];exact hl);have hc:decide (wS (G j) (G (j - 1))<0)=false:=(nV _ _).trans hl;have HM:=qqh (uY eY a j dj (.inr hd));clear hd hl;go_quiet (first | (go_at_call 46;refine Calls.quiet_of_same (gI _ _ _)));go_wp2;exact⟨⟨i+1,dj,by go_num,by omega,by omega,hsj,dP.out.drewN nq,by rw [← HO.out,ri eY a b i dk hlt,← HI.out,HM.out]⟩,by simp only [intOf];omega⟩
  have HM:=qqh (uY eY a j dj (.inl (by omega)));have hdf:decide ((a:Int)<(j:Int))=false:=(by simp;omega);go_quiet (first | (go_at_call 46;refine Calls.quiet_of_same (gI _ _ _)));go_wp2;exact⟨⟨i+1,dj,by go_num,by omega,by omega,hsj,dP.out.drewN nq,by rw [← HO.out,ri eY a b i dk hlt,← HI.out,HM.out]⟩,by simp only [intOf];omega⟩
 have HM:=qqh (GS eY a b i dk hlt);go_wp2;go_end0;exact⟨rfl,by rw [← HO.out,HM.out];exact HR.out⟩
theorem Ig (blk off cap a b n:Nat) (d:Array Int) (v:Value) (w:World) (hH:cS w blk off d) (ha:a+n≤b) (hb:b+n≤d.size) (hsz:d.size<4611686018427387904) :
    Calls Tryz.prog 135 #[.slice (some ⟨blk,off,none⟩) d.size cap,.int .i64 a,.int .i64 b,.int .i64 n,v] w fun e w'=>e=.returned (.tuple #[])∧aA w blk off (iY a b n 0 d) w':=by
 have HH:=qqh hH;clear hH;go_enter Tryz.func135,Tryz.ntmps135;go_wp2;go_loopw [10] (fun vi wr=>∃ (i:Nat) (dk:Array Int),vi=.int .i64 i∧i≤n∧dk.size=d.size∧aA w blk off dk wr∧iY a b (n - i) i dk=iY a b n 0 d) (fun vi _=>n - (intOf vi).toNat);(case atStart=>exact⟨0,d,rfl,Nat.zero_le _,rfl,aA.start HH.out,rfl⟩);obtain⟨i,dk,rfl,hi,lE,hrow,hO⟩:=hrel;obtain⟨G,hG,eB,gN⟩:=hrow.cells lE;have HR:=qqh hrow;have HG:=qqh hG;have HO:=qqh hO;clear hrow hG hO;by_cases hlt:i<n
 ·have HM:=qqh (show iY a b (n - i) i dk=iY a b (n - (i+1)) (i+1) (swp dk (a+i) (b+i)) by rw [show n - i=(n - (i+1))+1 by omega,iY]);have e1:=eB (a+i) (by omega);have e2:=eB (b+i) (by omega);have g1:=gN (a+i) (by omega);have g2:=gN (b+i) (by omega);clear eB gN;go_wp2;go_region;(all_goals go_wp2)
  all_goals
    exact⟨⟨i+1,swp dk (a+i) (b+i),by go_num,by omega,by rw [Sort.swp_size];exact lE,(HR.out.drewN 1).swap HG.out (by omega) (by omega),by rw [← HM.out];exact HO.out⟩,by simp only [intOf];omega⟩
 obtain rfl:i=n:=(by omega);have HM:=qqh (show iY a b (i - i) i dk=dk by rw [Nat.sub_self,iY]);clear eB gN;go_wp2;go_end0;exact⟨rfl,by rw [← HO.out,HM.out];exact HR.out⟩
theorem Nv (blk off cap a m b:Nat) (d:Array Int) (v:Value) (w:World) (hH:cS w blk off d) (ha:a<m) (hm:m<b) (hb:b≤d.size) (hsz:d.size<4611686018427387904) :
    Calls Tryz.prog 117 #[.slice (some ⟨blk,off,none⟩) d.size cap,.int .i64 a,.int .i64 m,.int .i64 b,v] w fun e w'=>e=.returned (.tuple #[])∧aA w blk off (mO m (b - a) (m - a) (b - m) d) w':=by
 have HH:=qqh hH;clear hH;go_enter Tryz.func117,Tryz.ntmps117;go_wp2;go_loopw [10,11] (fun vi vj wr=>∃ (f i j:Nat) (dk:Array Int),vi=.int .i64 i∧vj=.int .i64 j∧0<i∧0<j∧i≤m - a∧j≤b - m∧i+j≤f∧dk.size=d.size∧aA w blk off dk wr∧mO m f i j dk=mO m (b - a) (m - a) (b - m) d) (fun vi vj _=>(intOf vi).toNat+(intOf vj).toNat);(case atStart=>exact⟨b - a,m - a,b - m,d,by go_num,by go_num,by omega,by omega,qql,qql,by omega,rfl,aA.start HH.out,rfl⟩);obtain⟨f,i,j,dk,rfl,rfl,hi0,hj0,hi,hj,hf,lE,hrow,hO⟩:=hrel;obtain⟨f,rfl⟩:∃ g,f=g+1:=⟨f - 1,by omega⟩;have HR:=qqh hrow;have HO:=qqh hO;have HC:=qqh (fun(x y n:Nat) (X Y:Int) (hX:(x:Int)=X) (hY:(y:Int)=Y) (h1:x+n≤y) (h2:y+n≤d.size)=>show Calls Tryz.prog 135 #[.slice (some ⟨blk,off,none⟩) d.size cap,.int .i64 X,.int .i64 Y,.int .i64 n,v] wr fun e w'=>e=.returned (.tuple #[])∧aA w blk off (iY x y n 0 dk) w' from by
  subst hX hY;have h:=Ig blk off cap x y n dk v wr hrow.row h1 (by omega) (by omega);rw [lE]at h;exact h.mono fun e w' h=>⟨h.1,hrow.trans h.2 (kQ ..)⟩)
 clear hrow hO;by_cases hij:i=j
 ·subst hij;have HM:=qqh (show mO m (f+1) i i dk=iY (m - i) m i 0 dk by rw [mO,if_pos rfl]);have HX:=qqh (HC.out (m - i) m i ((m:Int) - i) m (by omega) rfl (by omega) (by omega));go_wp2_with fail;refine HX.out.mono ?_;rintro e w2 ⟨rfl,hr⟩;have dP:=qqh hr;clear hr;go_wp2_with fail;go_end0;exact⟨rfl,by rw [← HO.out,HM.out];exact dP.out⟩
 have hne:((i:Int) ==(j:Int))=false:=(by rw [beq_eq_false_iff_ne];omega);by_cases hlt:j<i
 ·have HM:=qqh (show mO m (f+1) i j dk=mO m f (i - j) j (iY (m - i) m j 0 dk) by rw [mO,if_neg hij,if_pos hlt]);have HX:=qqh (HC.out (m - i) m j ((m:Int) - i) m (by omega) rfl (by omega) (by omega));go_wp2_with fail;refine HX.out.mono ?_;rintro e w2 ⟨rfl,hr⟩;have dP:=qqh hr;clear hr;go_wp2_with fail;exact⟨⟨f,i - j,j,_,by go_num,rfl,by omega,hj0,by omega,hj,by omega,by rw [kQ];exact lE,dP.out,by rw [← HO.out,HM.out]⟩,by simp only [intOf];omega⟩
 have HM:=qqh (show mO m (f+1) i j dk=mO m f i (j - i) (iY (m - i) (m+j - i) i 0 dk) by rw [mO,if_neg hij,if_neg hlt]);have HX:=qqh (HC.out (m - i) (m+j - i) i ((m:Int) - i) ((m:Int)+j - i) (by omega) (by omega) (by omega) (by omega));go_wp2_with fail;refine HX.out.mono ?_;rintro e w2 ⟨rfl,hr⟩;have dP:=qqh hr;clear hr;go_wp2_with fail;exact⟨⟨f,i,j - i,_,rfl,by go_num,hi0,by omega,hi,by omega,by omega,by rw [kQ];exact lE,dP.out,by rw [← HO.out,HM.out]⟩,by simp only [intOf];omega⟩
theorem Lj (blk off cap a m b f:Nat) (d:Array Int) (w:World) (hH:cS w blk off d) (ha:m=a+1) (hm:m<b) (hb:b≤d.size) (hsz:d.size<4611686018427387904) :
    Calls Tryz.prog 98 #[.slice (some ⟨blk,off,none⟩) d.size cap,.int .i64 a,.int .i64 m,.int .i64 b,.func (.func 46) #[] #[]] w fun e w'=>e=.returned (.tuple #[])∧aA w blk off (jh eY (f+1) a m b d) w':=by
 have HH:=qqh hH;have HS:=qqh (show jh eY (f+1) a m b d=KU (fU (fun h=>eY d[h]! d[a]!) m b - 1 - a) a d by rw [jh,if_pos (by omega)]);have eg:=mV;clear hH;subst ha;go_enter Tryz.func98,Tryz.ntmps98;go_wp2_with fail;go_loopw [10,11] (fun vi vj wr=>∃ i j:Nat,vi=.int .i64 i∧vj=.int .i64 j∧a+1≤i∧i≤j∧j≤b∧aA w blk off d wr∧fU (fun h=>eY d[h]! d[a]!) i j=fU (fun h=>eY d[h]! d[a]!) (a+1) b) (fun vi vj _=>(intOf vj).toNat - (intOf vi).toNat);(case atStart=>exact⟨a+1,b,by go_num,rfl,qql,by omega,qql,aA.start HH.out,rfl⟩);obtain⟨i,j,rfl,rfl,hi,hij,hj,hrow,hO⟩:=hrel;obtain⟨G,hG,eB,gN⟩:=hrow.cells rfl;have HR:=qqh hrow;have HG:=qqh hG;have HO:=qqh hO;clear hrow hG hO;by_cases hlt:i<j
 ·obtain⟨h,hh⟩:∃ h:Nat,h=(i+j) / 2:=⟨_,rfl⟩;have e1:=eB h (by omega);have e2:=eB a (by omega);have ZH:i≤h:=(by omega);have Ru:h<j:=(by omega);clear eB gN;go_wp2_with fail;rw [show((i:Int)+(j:Int)) / 2=(h:Int) by omega];cases hl:eY (G h) (G a)with
  | true=>
   have hc:decide (wS (G h) (G a)<0)=true:=(nV _ _).trans hl;have HM:=qqh (sO (p:=fun h=>eY d[h]! d[a]!) hlt (by rw [← hh,← HG.out,← HG.out];exact hl));rw [← hh]at HM;clear hl hh;go_quiet (first | (go_at_call 46;refine Calls.quiet_of_same (gI _ _ _)));go_wp2_with fail;exact⟨⟨h+1,j,by go_num,rfl,by omega,by omega,hj,HR.out.drewN nq,by rw [← HO.out,HM.out]⟩,by simp only [intOf];omega⟩
  | false=>
   have hc:decide (wS (G h) (G a)<0)=false:=(nV _ _).trans hl;have HM:=qqh (si (p:=fun h=>eY d[h]! d[a]!) hlt (by rw [← hh,← HG.out,← HG.out];exact hl));rw [← hh]at HM;clear hl hh;go_quiet (first | (go_at_call 46;refine Calls.quiet_of_same (gI _ _ _)));go_wp2_with fail;exact⟨⟨i,h,rfl,rfl,hi,by omega,by omega,HR.out.drewN nq,by rw [← HO.out,HM.out]⟩,by simp only [intOf];omega⟩
 have HX:=qqh (show fU (fun h=>eY d[h]! d[a]!) (a+1) b=i by rw [← HO.out,xp hlt]);clear eB gN;go_wp2_with fail;go_loopw [13] (fun vk wx=>∃ (k:Nat) (dk:Array Int),vk=.int .i64 k∧a≤k∧k≤i - 1∧dk.size=d.size∧aA w blk off dk wx∧KU (i - 1 - k) k dk=KU (i - 1 - a) a d) (fun vk _=>i - (intOf vk).toNat);(case atStart=>exact⟨a,d,rfl,qql,by omega,rfl,HR.out,rfl⟩);obtain⟨k,dk,rfl,hk1,hk2,lE,hrow,Kt⟩:=hrel;obtain⟨G2,Wn,eB,gN⟩:=hrow.cells lE;have dP:=qqh hrow;have kY:=qqh Wn;have nE:=qqh Kt;clear hrow Wn Kt;by_cases hlk:k<i - 1
 ·have HM:=qqh (show KU (i - 1 - k) k dk=KU (i - 1 - (k+1)) (k+1) (swp dk k (k+1)) by rw [show i - 1 - k=(i - 1 - (k+1))+1 by omega,KU]);have e1:=eB k (by omega);have e2:=eB (k+1) (by omega);have g1:=gN k (by omega);have g2:=gN (k+1) (by omega);clear eB gN;go_wp2;go_region;(all_goals go_wp2)
  all_goals
    exact⟨⟨k+1,swp dk k (k+1),by go_num,by omega,by omega,by rw [Sort.swp_size];exact lE,(dP.out.drewN 1).swap kY.out (by omega) (by omega),by rw [← HM.out];exact nE.out⟩,by simp only [intOf];omega⟩
 obtain rfl:k=i - 1:=(by omega);have HM:=qqh (show KU (i - 1 - (i - 1)) (i - 1) dk=dk by rw [Nat.sub_self,KU]);clear eB gN;go_wp2;refine bodyPost_ret (results_none rfl _ _ _) rfl ?_;exact⟨rfl,by rw [HS.out,HX.out,← nE.out,HM.out];exact dP.out⟩
theorem Mc (blk off cap a m b f:Nat) (d:Array Int) (w:World) (hH:cS w blk off d) (ha:a+1<m) (hm:b=m+1) (hb:b≤d.size) (hsz:d.size<4611686018427387904) :
    Calls Tryz.prog 98 #[.slice (some ⟨blk,off,none⟩) d.size cap,.int .i64 a,.int .i64 m,.int .i64 b,.func (.func 46) #[] #[]] w fun e w'=>e=.returned (.tuple #[])∧aA w blk off (jh eY (f+1) a m b d) w':=by
 have HH:=qqh hH;have HS:=qqh (show jh eY (f+1) a m b d=nB (m - fU (fun h=>!eY d[m]! d[h]!) a m) m d by rw [jh,if_neg (by omega),if_pos (by omega)]);have eg:=mV;have hne:((m:Int) - (a:Int) == 1)=false:=(by rw [beq_eq_false_iff_ne];omega);clear hH;subst hm;go_enter Tryz.func98,Tryz.ntmps98;go_wp2_with fail;go_loopw [14,15] (fun vi vj wr=>∃ i j:Nat,vi=.int .i64 i∧vj=.int .i64 j∧a≤i∧i≤j∧j≤m∧aA w blk off d wr∧fU (fun h=>!eY d[m]! d[h]!) i j=fU (fun h=>!eY d[m]! d[h]!) a m) (fun vi vj _=>(intOf vj).toNat - (intOf vi).toNat);(case atStart=>exact⟨a,m,rfl,rfl,qql,by omega,qql,aA.start HH.out,rfl⟩);obtain⟨i,j,rfl,rfl,hi,hij,hj,hrow,hO⟩:=hrel;obtain⟨G,hG,eB,gN⟩:=hrow.cells rfl;have HR:=qqh hrow;have HG:=qqh hG;have HO:=qqh hO;clear hrow hG hO;by_cases hlt:i<j
 ·obtain⟨h,hh⟩:∃ h:Nat,h=(i+j) / 2:=⟨_,rfl⟩;have e1:=eB h (by omega);have e2:=eB m (by omega);have ZH:i≤h:=(by omega);have Ru:h<j:=(by omega);clear eB gN;go_wp2_with fail;rw [show((i:Int)+(j:Int)) / 2=(h:Int) by omega];cases hl:eY (G m) (G h)with
  | false=>
   have hc:decide (wS (G m) (G h)<0)=false:=(nV _ _).trans hl;have HM:=qqh (sO (p:=fun h=>!eY d[m]! d[h]!) hlt (by rw [← hh,← HG.out,← HG.out,hl];rfl));rw [← hh]at HM;clear hl hh;go_quiet (first | (go_at_call 46;refine Calls.quiet_of_same (gI _ _ _)));go_wp2_with fail;exact⟨⟨h+1,j,by go_num,rfl,by omega,by omega,hj,HR.out.drewN nq,by rw [← HO.out,HM.out]⟩,by simp only [intOf];omega⟩
  | true=>
   have hc:decide (wS (G m) (G h)<0)=true:=(nV _ _).trans hl;have HM:=qqh (si (p:=fun h=>!eY d[m]! d[h]!) hlt (by rw [← hh,← HG.out,← HG.out,hl];rfl));rw [← hh]at HM;clear hl hh;go_quiet (first | (go_at_call 46;refine Calls.quiet_of_same (gI _ _ _)));go_wp2_with fail;exact⟨⟨i,h,rfl,rfl,hi,by omega,by omega,HR.out.drewN nq,by rw [← HO.out,HM.out]⟩,by simp only [intOf];omega⟩
 have HX:=qqh (show fU (fun h=>!eY d[m]! d[h]!) a m=i by rw [← HO.out,xp hlt]);clear eB gN;go_wp2_with fail;go_loopw [17] (fun vk wx=>∃ (k:Nat) (dk:Array Int),vk=.int .i64 k∧i≤k∧k≤m∧dk.size=d.size∧aA w blk off dk wx∧nB (k - i) k dk=nB (m - i) m d) (fun vk _=>(intOf vk).toNat);(case atStart=>exact⟨m,d,rfl,by omega,qql,rfl,HR.out,rfl⟩);obtain⟨k,dk,rfl,hk1,hk2,lE,hrow,Kt⟩:=hrel;obtain⟨G2,Wn,eB,gN⟩:=hrow.cells lE;have dP:=qqh hrow;have kY:=qqh Wn;have nE:=qqh Kt;clear hrow Wn Kt;by_cases hlk:i<k
 ·have HM:=qqh (show nB (k - i) k dk=nB (k - 1 - i) (k - 1) (swp dk k (k - 1)) by rw [show k - i=(k - 1 - i)+1 by omega,nB]);have e1:=eB k (by omega);have e2:=eB (k - 1) (by omega);have g1:=gN k (by omega);have g2:=gN (k - 1) (by omega);clear eB gN;go_wp2;go_region;(all_goals go_wp2)
  all_goals
    exact⟨⟨k - 1,swp dk k (k - 1),by go_num,by omega,by omega,by rw [Sort.swp_size];exact lE,(dP.out.drewN 1).swap kY.out (by omega) (by omega),by rw [← HM.out];exact nE.out⟩,by simp only [intOf];omega⟩
 obtain rfl:k=i:=(by omega);have HM:=qqh (show nB (k - k) k dk=dk by rw [Nat.sub_self,nB]);clear eB gN;go_wp2;refine bodyPost_ret (results_none rfl _ _ _) rfl ?_;exact⟨rfl,by rw [HS.out,HX.out,← nE.out,HM.out];exact dP.out⟩
theorem EI {lt:Int→Int→Bool} {f a m b mid s e:Nat} {d d1 d2:Array Int} (h1:m - a≠1) (h2:b - m≠1) (hmid:mid=(a+b) / 2) (hs:Mg lt a m b d=s) (he:e=mid+m - s)
    (qC:(if s<m∧m<e then mO m (e - s) (m - s) (e - m) d else d)=d1) (mI:(if a<s∧s<mid then jh lt f a s mid d1 else d1)=d2) :
    jh lt (f+1) a m b d=if mid<e∧e<b then jh lt f mid e b d2 else d2:=by
 subst hmid hs he qC mI;rw [jh,if_neg h1,if_neg h2]
theorem Tn {lt:Int→Int→Bool} {a m b mid s0 r0:Nat} {d:Array Int} (hmid:mid=(a+b) / 2) (hs:s0=if mid<m then mid+m - b else a) (hr:r0=if mid<m then mid else m) :
    Mg lt a m b d=fU (fun c=>!lt d[mid+m - 1 - c]! d[c]!) s0 r0:=by
 subst hmid hs hr;rfl
theorem Lr (blk off cap:Nat):∀ (f a m b:Nat) (d:Array Int) (w:World),cS w blk off d→a<m→m<b→b≤d.size→d.size<4611686018427387904→b - a≤f →
    Calls Tryz.prog 98 #[.slice (some ⟨blk,off,none⟩) d.size cap,.int .i64 a,.int .i64 m,.int .i64 b,.func (.func 46) #[] #[]] w fun e w'=>e=.returned (.tuple #[])∧aA w blk off (jh eY f a m b d) w':=by
 intro f;induction f with
 | zero=>intro a m b d w _ h1 h2 _ _ h3;omega
 | succ f ih=>
  intro a m b d w hH ha hm hb hsz hf;by_cases h1:m=a+1;exact Lj blk off cap a m b f d w hH h1 hm hb hsz;by_cases h2:b=m+1;exact Mc blk off cap a m b f d w hH (by omega) h2 hb hsz;have HH:=qqh hH;have Iv:=qqh ih;have eg:=mV;have q1:((m:Int) - (a:Int) == 1)=false:=(by rw [beq_eq_false_iff_ne];omega);have q2:((b:Int) - (m:Int) == 1)=false:=(by rw [beq_eq_false_iff_ne];omega);obtain⟨mid,hmid⟩:∃ mid:Nat,mid=(a+b) / 2:=⟨_,rfl⟩;obtain⟨s0,hs0⟩:∃ s0:Nat,s0=if mid<m then mid+m - b else a:=⟨_,rfl⟩;obtain⟨r0,Ql⟩:∃ r0:Nat,r0=if mid<m then mid else m:=⟨_,rfl⟩;have HCU:=qqh (Tn (lt:=eY) (d:=d) hmid hs0 Ql);have HMI:=qqh hmid;have b1:a<mid:=(by omega);have b2:mid<b:=(by omega);have b3:s0≤r0:=(by rw [hs0,Ql];split <;> omega);have b4:a≤s0:=(by rw [hs0];split <;> omega);have b5:r0≤mid∧r0≤m:=(by rw [Ql];split <;> omega);have b6:mid+m≤b+s0:=(by rw [hs0];split <;> omega);have b9:mid<m→b≤mid+m:=(by intro h;omega);have b7:=b5.1;have b8:=b5.2;have Ek:=qqh (fun(s e:Nat) (d1 d2:Array Int)=>EI (lt:=eY) (f:=f) (d:=d) (s:=s) (e:=e) (d1:=d1) (d2:=d2) (show m - a≠1 by omega) (show b - m≠1 by omega) hmid);have QY:=qqh hs0;have fQ:=qqh Ql;clear hH ih hmid hs0 Ql b5 h1 h2;go_enter Tryz.func98,Tryz.ntmps98;go_upto_region 25 with fail;rw [show((a:Int)+(b:Int)) / 2=(mid:Int) by have:=HMI.out;omega];go_upto_if 140 with fail;go_cut [20,21] (fun u v wx=>u=.int .i64 s0∧v=.int .i64 r0∧w=wx);case first=>
   by_cases hmm:mid<m
   ·go_wp2_with fail;go_meet;refine⟨?_,?_,rfl⟩
    ·rw [QY.out,if_pos hmm];go_num
    rw [fQ.out,if_pos hmm]
   go_wp2_with fail;go_meet;refine⟨?_,?_,rfl⟩
   ·rw [QY.out,if_neg hmm]
   rw [fQ.out,if_neg hmm]
  case rest=>
  obtain⟨rfl,rfl,rfl⟩:=hcut;go_wp2_with fail;go_loopw [20,21] (fun vi vj wr=>∃ i j:Nat,vi=.int .i64 i∧vj=.int .i64 j∧s0≤i∧i≤j∧j≤r0∧aA w blk off d wr∧fU (fun c=>!eY d[mid+m - 1 - c]! d[c]!) i j=fU (fun c=>!eY d[mid+m - 1 - c]! d[c]!) s0 r0) (fun vi vj _=>(intOf vj).toNat - (intOf vi).toNat);(case atStart=>exact⟨s0,r0,rfl,rfl,qql,b3,qql,aA.start HH.out,rfl⟩);obtain⟨i,j,rfl,rfl,hi,hij,hj,hrow,hO⟩:=hrel;obtain⟨G,hG,eB,gN⟩:=hrow.cells rfl;have HR:=qqh hrow;have HG:=qqh hG;have HO:=qqh hO;clear hrow hG hO;by_cases hlt:i<j
  ·as_aux_lemma=>
    obtain⟨h,hh⟩:∃ h:Nat,h=(i+j) / 2:=⟨_,rfl⟩;have ZH:i≤h:=(by omega);have Ru:h<j:=(by omega);have e1:=eB h (by omega);have e2:=eB (mid+m - 1 - h) (by omega);clear eB gN;go_wp2_with fail;rw [show((i:Int)+(j:Int)) / 2=(h:Int) by omega];cases hl:eY (G (mid+m - 1 - h)) (G h)with
    | false=>
     have hc:decide (wS (G (mid+m - 1 - h)) (G h)<0)=false:=(nV _ _).trans hl;have HM:=qqh (sO (p:=fun c=>!eY d[mid+m - 1 - c]! d[c]!) hlt (by rw [← hh,← HG.out,← HG.out,hl];rfl));rw [← hh]at HM;clear hl hh;go_quiet (first | (go_at_call 46;refine Calls.quiet_of_same (gI _ _ _)));go_wp2_with fail;exact⟨⟨h+1,j,by go_num,rfl,by omega,by omega,hj,HR.out.drewN nq,by rw [← HO.out,HM.out]⟩,by simp only [intOf];omega⟩
    | true=>
     have hc:decide (wS (G (mid+m - 1 - h)) (G h)<0)=true:=(nV _ _).trans hl;have HM:=qqh (si (p:=fun c=>!eY d[mid+m - 1 - c]! d[c]!) hlt (by rw [← hh,← HG.out,← HG.out,hl];rfl));rw [← hh]at HM;clear hl hh;go_quiet (first | (go_at_call 46;refine Calls.quiet_of_same (gI _ _ _)));go_wp2_with fail;exact⟨⟨i,h,rfl,rfl,hi,by omega,by omega,HR.out.drewN nq,by rw [← HO.out,HM.out]⟩,by simp only [intOf];omega⟩
  have HX:=qqh (show Mg eY a m b d=i by rw [HCU.out,← HO.out,xp hlt]);clear eB gN;obtain⟨e,he⟩:∃ e:Nat,e=mid+m - i:=⟨_,rfl⟩;have T9:e≤b:=(by omega);have Yv:mid≤e:=(by omega);have he3:m≤e:=(by omega);have HE:=qqh he;clear he;go_upto_region 39 with fail;rw [show(mid:Int)+(m:Int) - (i:Int)=(e:Int) by have:=HE.out;omega];obtain⟨k1,hk1⟩:∃ k1,decide (i<m∧m<e)=k1:=⟨_,rfl⟩;have yz:=qqh hk1;clear hk1;go_cut [185] (fun u wx=>u=.bool k1∧wr=wx);case first=>
   as_aux_lemma=>
    by_cases hc1:i<m
    ·by_cases hc2:m<e
     ·go_wp2_with fail;go_meet;exact⟨by rw [← yz.out,decide_eq_true ⟨hc1,hc2⟩],rfl⟩
     go_wp2_with fail;go_meet;exact⟨by rw [← yz.out,decide_eq_false (fun q=>hc2 q.2)],rfl⟩
    go_wp2_with fail;go_meet;exact⟨by rw [← yz.out,decide_eq_false (fun q=>hc1 q.1)],rfl⟩
  case rest=>
  obtain⟨rfl,rfl⟩:=hcut;obtain⟨d1,qC⟩:∃ d1,(if i<m∧m<e then mO m (e - i) (m - i) (e - m) d else d)=d1:=⟨_,rfl⟩;have oQ:d1.size=d.size:=by
   rw [← qC];split;exact rX ..;rfl
  have Up:=qqh qC;have HZ1:=qqh oQ;clear qC oQ;go_upto_if 185 with fail;go_cut [] (fun wx=>aA w blk off d1 wx);case first=>
   as_aux_lemma=>
    cases k1 with
    | true=>
     have hc:=of_decide_eq_true yz.out;have HT:=qqh (show d1=mO m (e - i) (m - i) (e - m) d by rw [← Up.out,if_pos hc]);have HC:=qqh (Nv blk off cap i m e d (.func (.func 46) #[] #[]) wr HR.out.row hc.1 hc.2 (by omega) hsz);go_wp2_with fail;refine HC.out.mono ?_;rintro e9 w2 ⟨rfl,hr⟩;have dP:=qqh (HR.out.trans hr (rX ..));clear hr;go_wp2_with fail;go_meet;rw [HT.out];exact dP.out
    | false=>
     have HT:=qqh (show d1=d by rw [← Up.out,if_neg (of_decide_eq_false yz.out)]);go_wp2_with fail;go_meet;rw [HT.out];exact HR.out
  case rest=>
  have iE:=qqh hcut;clear hcut HR;obtain⟨d2,mI⟩:∃ d2,(if a<i∧i<mid then jh eY f a i mid d1 else d1)=d2:=⟨_,rfl⟩;have tr:d2.size=d.size:=by
   rw [← mI,← HZ1.out];split;exact ki ..;rfl
  have wW:=qqh (Ek.out i e d1 d2 HX.out HE.out Up.out mI);have Ri:=qqh mI;have Mj:=qqh tr;have R7:=qqh (fun(a m b:Nat) (dx:Array Int) (W:World) (hs:dx.size=d.size) (hr:aA w blk off dx W) (h1:a<m) (h2:m<b) (h3:b≤d.size) (h4:b - a≤f)=>show Calls Tryz.prog 98 #[.slice (some ⟨blk,off,none⟩) d.size cap,.int .i64 a,.int .i64 m,.int .i64 b,.func (.func 46) #[] #[]] W fun e w'=>e=.returned (.tuple #[])∧aA w blk off (jh eY f a m b dx) w' from by
   have h:=Iv.out a m b dx W hr.row h1 h2 (by omega) (by omega) h4;rw [hs]at h;exact h.mono fun e w' h=>⟨h.1,hr.trans h.2 (ki ..)⟩)
  clear mI tr Iv Ek;go_upto_region 41 with fail;obtain⟨k2,hk2⟩:∃ k2,decide (a<i∧i<mid)=k2:=⟨_,rfl⟩;have Ej:=qqh hk2;clear hk2;go_cut [199] (fun u wx=>u=.bool k2∧wc=wx);case first=>
   as_aux_lemma=>
    by_cases hc1:a<i
    ·by_cases hc2:i<mid
     ·go_wp2_with fail;go_meet;exact⟨by rw [← Ej.out,decide_eq_true ⟨hc1,hc2⟩],rfl⟩
     go_wp2_with fail;go_meet;exact⟨by rw [← Ej.out,decide_eq_false (fun q=>hc2 q.2)],rfl⟩
    go_wp2_with fail;go_meet;exact⟨by rw [← Ej.out,decide_eq_false (fun q=>hc1 q.1)],rfl⟩
  case rest=>
  obtain⟨rfl,rfl⟩:=hcut;go_upto_if 199 with fail;go_cut [] (fun wx=>aA w blk off d2 wx);case first=>
   as_aux_lemma=>
    cases k2 with
    | true=>
     have hc:=of_decide_eq_true Ej.out;have HT:=qqh (show d2=jh eY f a i mid d1 by rw [← Ri.out,if_pos hc]);have HC:=qqh (R7.out a i mid d1 wc HZ1.out iE.out hc.1 hc.2 (by omega) (by omega));go_wp2_with fail;refine HC.out.mono ?_;rintro e9 w2 ⟨rfl,hr⟩;have dP:=qqh hr;clear hr;go_wp2_with fail;go_meet;rw [HT.out];exact dP.out
    | false=>
     have HT:=qqh (show d2=d1 by rw [← Ri.out,if_neg (of_decide_eq_false Ej.out)]);go_wp2_with fail;go_meet;rw [HT.out];exact iE.out
  case rest=>
  as_aux_lemma=>
   have dP:=qqh hcut;clear hcut iE;by_cases hc1:mid<e
   ·by_cases hc2:e<b
    ·have HT:=qqh (show jh eY (f+1) a m b d=jh eY f mid e b d2 by rw [wW.out,if_pos ⟨hc1,hc2⟩]);have HC:=qqh (R7.out mid e b d2 wc Mj.out dP.out hc1 hc2 hb (by omega));go_wp2_with fail;refine HC.out.mono ?_;rintro e9 w2 ⟨rfl,hr⟩;have pO:=qqh hr;clear hr;go_wp2_with fail;go_end0;exact⟨rfl,by rw [HT.out];exact pO.out⟩
    have HT:=qqh (show jh eY (f+1) a m b d=d2 by rw [wW.out,if_neg (fun q=>hc2 q.2)]);go_wp2_with fail;go_end0;exact⟨rfl,by rw [HT.out];exact dP.out⟩
   have HT:=qqh (show jh eY (f+1) a m b d=d2 by rw [wW.out,if_neg (fun q=>hc1 q.1)]);go_wp2_with fail;go_end0;exact⟨rfl,by rw [HT.out];exact dP.out⟩
theorem K3 (blk off cap:Nat) (d:Array Int) (w:World) (hH:cS w blk off d) (hsz:d.size≤100000) :
    Calls Tryz.prog 75 #[.slice (some ⟨blk,off,none⟩) d.size cap,.int .i64 d.size,.func (.func 46) #[] #[]] w fun e w'=>e=.returned (.tuple #[])∧aA w blk off (iF eY d) w':=by
 have HH:=qqh hH;have HS:=qqh (show iF eY d=Bk eY d.size (d.size+1) 20 (rL eY d.size (d.size+1) 0 20 d) from rfl);obtain⟨n,hn⟩:∃ n,n=d.size:=⟨_,rfl⟩;rw [← hn]at hsz HS ⊢;have HN:=qqh hn;clear hH hn;have HI:=qqh (fun(a b:Nat) (dx:Array Int) (W:World) (hs:dx.size=n) (hr:aA w blk off dx W) (h1:a≤b) (h3:b≤n)=>show Calls Tryz.prog 97 #[.slice (some ⟨blk,off,none⟩) n cap,.int .i64 a,.int .i64 b,.func (.func 46) #[] #[]] W fun e w'=>e=.returned (.tuple #[])∧aA w blk off (insertionSort eY dx a b) w' from by
  have h:=MN blk off cap a b dx W hr.row h1 (by omega) (by omega);rw [hs]at h;exact h.mono fun e w' h=>⟨h.1,hr.trans h.2 (gl ..)⟩)
 have HM:=qqh (fun(a m b:Nat) (X:Int) (hX:(m:Int)=X) (dx:Array Int) (W:World) (hs:dx.size=n) (hr:aA w blk off dx W) (h1:a<m) (h2:m<b) (h3:b≤n)=>show Calls Tryz.prog 98 #[.slice (some ⟨blk,off,none⟩) n cap,.int .i64 a,.int .i64 X,.int .i64 b,.func (.func 46) #[] #[]] W fun e w'=>e=.returned (.tuple #[])∧aA w blk off (jh eY n a m b dx) w' from by
  subst hX;have h:=Lr blk off cap n a m b dx W hr.row h1 h2 (by omega) (by omega) (by omega);rw [hs]at h;exact h.mono fun e w' h=>⟨h.1,hr.trans h.2 (ki ..)⟩)
 go_enter Tryz.func75,Tryz.ntmps75;go_wp2_with fail;go_loopw [7,8] (fun va vb wr=>∃ (f a:Nat) (dk:Array Int),va=.int .i64 a∧vb=.int .i64 ((a+20:Nat):Int)∧a≤n∧n+2≤a+20+(f+1)∧dk.size=n∧aA w blk off dk wr∧rL eY n (f+1) a (a+20) dk=rL eY n (n+1) 0 20 d) (fun va _ _=>n+1 - (intOf va).toNat);(case atStart=>exact⟨n,0,d,rfl,rfl,Nat.zero_le _,by omega,HN.out.symm,aA.start HH.out,rfl⟩);obtain⟨f,a,dk,rfl,rfl,ha,hf,lE,hrow,hO⟩:=hrel;have HR:=qqh hrow;have HO:=qqh hO;have HK:=qqh lE;clear hrow hO lE;by_cases hlt:a+20≤n
 ·as_aux_lemma=>
   obtain⟨f,rfl⟩:∃ g,f=g+1:=⟨f - 1,by omega⟩;have HX:=qqh (show rL eY n (f+1+1) a (a+20) dk=rL eY n (f+1) (a+20) (a+20+20) (insertionSort eY dk a (a+20)) by rw [rL,if_pos hlt]);have HC:=qqh (HI.out a (a+20) dk wr HK.out HR.out (by omega) hlt);go_wp2_with fail;refine HC.out.mono ?_;rintro e w2 ⟨rfl,hr⟩;have dP:=qqh hr;clear hr;go_wp2_with fail;exact⟨⟨f,a+20,_,by go_num,by go_num,hlt,by omega,by rw [gl];exact HK.out,dP.out,by rw [← HO.out,HX.out]⟩,by simp only [intOf];omega⟩
 have HX:=qqh (show rL eY n (n+1) 0 20 d=insertionSort eY dk a n by rw [← HO.out,rL,if_neg hlt]);have HC:=qqh (HI.out a n dk wr HK.out HR.out ha qql);go_wp2_with fail;refine HC.out.mono ?_;rintro e w2 ⟨rfl,hr⟩;rw [← HX.out]at hr;have dP:=qqh hr;have Mj:=qqh (show(rL eY n (n+1) 0 20 d).size=n by rw [HX.out,gl];exact HK.out);clear hr HR HX HO HC HK;generalize rL eY n (n+1) 0 20 d=D at *;go_wp2_with fail;go_loopw [6] (fun vz wr=>∃ (f z:Nat) (dk:Array Int),vz=.int .i64 z∧20≤z∧z≤2*n+20∧n+2≤z+(f+1)∧dk.size=n∧aA w blk off dk wr∧Bk eY n (f+1) z dk=iF eY d) (fun vz _=>300000 - (intOf vz).toNat);(case atStart=>exact⟨n,20,D,rfl,qql,by omega,by omega,Mj.out,dP.out,HS.out.symm⟩);obtain⟨f,z,dk,rfl,hz,tr,hf,lE,hrow,hO⟩:=hrel;have HR:=qqh hrow;have HO:=qqh hO;have HK:=qqh lE;clear hrow hO lE;by_cases hlz:z<n
 ·obtain⟨f,rfl⟩:∃ g,f=g+1:=⟨f - 1,by omega⟩;have HX:=qqh (show Bk eY n (f+1) (2*z) (iu eY n z (n+1) 0 (2*z) dk)=iF eY d by have h:=HO.out;rw [Bk,if_pos hlz]at h;exact h);clear HO;go_wp2_with fail;go_loopw [7,8] (fun va vb wr=>∃ (g a:Nat) (dx:Array Int),va=.int .i64 a∧vb=.int .i64 ((a+2*z:Nat):Int)∧a≤n∧n+2≤a+2*z+(g+1)∧dx.size=n∧aA w blk off dx wr∧iu eY n z (g+1) a (a+2*z) dx=iu eY n z (n+1) 0 (2*z) dk) (fun va _ _=>n+1 - (intOf va).toNat);(case atStart=>exact⟨n,0,dk,rfl,by go_num,Nat.zero_le _,by omega,HK.out,HR.out,by rw [Nat.zero_add]⟩);obtain⟨g,a,dx,rfl,rfl,ha,hg,Lz,hrow,hO⟩:=hrel;have pO:=qqh hrow;have HO:=qqh hO;have Gz:=qqh Lz;clear hrow hO Lz;by_cases hlt:a+2*z≤n
  ·as_aux_lemma=>
    obtain⟨g,rfl⟩:∃ q,g=q+1:=⟨g - 1,by omega⟩;have HY:=qqh (show iu eY n z (g+1+1) a (a+2*z) dx=iu eY n z (g+1) (a+2*z) (a+2*z+2*z) (jh eY n a (a+z) (a+2*z) dx) by rw [iu,if_pos hlt]);have HC:=qqh (HM.out a (a+z) (a+2*z) ((a:Int)+z) (by omega) dx wr Gz.out pO.out (by omega) (by omega) hlt);go_wp2_with fail;refine HC.out.mono ?_;rintro e w2 ⟨rfl,hr⟩;have CP:=qqh hr;clear hr;go_wp2_with fail;exact⟨⟨g,a+2*z,_,by go_num,by go_num,hlt,by omega,by rw [ki];exact Gz.out,CP.out,by rw [← HO.out,HY.out]⟩,by simp only [intOf];omega⟩
  by_cases hm:a+z<n
  ·as_aux_lemma=>
    have HY:=qqh (show iu eY n z (n+1) 0 (2*z) dk=jh eY n a (a+z) n dx by rw [← HO.out,iu,if_neg hlt,if_pos hm]);have HC:=qqh (HM.out a (a+z) n ((a:Int)+z) (by omega) dx wr Gz.out pO.out (by omega) hm qql);go_wp2_with fail;refine HC.out.mono ?_;rintro e w2 ⟨rfl,hr⟩;rw [← HY.out]at hr;have CP:=qqh hr;have HZ4:=qqh (show(iu eY n z (n+1) 0 (2*z) dk).size=n by rw [sX];exact HK.out);clear hr;go_wp2_with fail;exact⟨⟨f,2*z,_,by go_num,by omega,by omega,by omega,HZ4.out,CP.out,HX.out⟩,by simp only [intOf];omega⟩
  as_aux_lemma=>
   have HY:=qqh (show iu eY n z (n+1) 0 (2*z) dk=dx by rw [← HO.out,iu,if_neg hlt,if_neg hm]);go_wp2_with fail;exact⟨⟨f,2*z,dx,by go_num,by omega,by omega,by omega,Gz.out,pO.out,by rw [← HX.out,HY.out]⟩,by simp only [intOf];omega⟩
 have HX:=qqh (show iF eY d=dk by rw [← HO.out,Bk,if_neg hlz]);go_wp2_with fail;go_end0;exact⟨rfl,by rw [HX.out];exact HR.out⟩
theorem Ef (blk off cap:Nat) (d:Array Int) (w:World) (hH:cS w blk off d) (hsz:d.size≤100000) :
    Calls Tryz.prog 45 #[.slice (some ⟨blk,off,none⟩) d.size cap,.func (.func 46) #[] #[]] w fun e w'=>e=.returned (.tuple #[])∧aA w blk off (iF eY d) w':=by
 have HC:=qqh (K3 blk off cap d w hH hsz);clear hH;go_enter Tryz.func45,Tryz.ntmps45;go_wp2_with fail;refine HC.out.mono ?_;rintro e w2 ⟨rfl,hr⟩;have HR:=qqh hr;clear hr;go_wp2_with fail;go_end0;exact⟨rfl,HR.out⟩
section
variable {w wr w2 : World} {blk off i k : Nat} {d s : Array Int}
theorem cS.sub (h:cS w blk off d) (hik:i≤k) (hk:k≤d.size):cS w blk (off+i) (d.extract i k):=by
 obtain⟨c,e,h1,h2⟩:=h;refine⟨c,e,h1,fun j hj=>?_⟩;have hj':j<k - i:=(by simp at hj;omega);have h3:=h2 (i+j) (by omega);rw [Nat.add_assoc,h3,getElem!_pos (d.extract i k) j hj,getElem!_pos d (i+j) (by omega),Array.getElem_extract]
theorem aA.sub (h:aA w blk off d wr) (h':aA wr blk (off+i) s w2) (hs:i+s.size≤d.size):aA w blk off (nI d i s) w2:=by
 obtain⟨c,c',e,h1,h2,h3,h4,h5,h6⟩:=h;obtain⟨k,k',e',g1,g2,g3,g4,g5,g6⟩:=h';have he:some (Obj.cells c' e (0,0))=some (Obj.cells k e' (0,0)):=h2.symm.trans g1;injection he with he;injection he with T9 Yv;subst T9 Yv;refine⟨c,k',e,h1,g2,g3.trans h3,fun j hj=>?_,fun j hj=>?_,h6.trans g6⟩
 ·rw [gj]at hj;rw [sE _ _ _ hj];split
  ·rename_i q;have:=g4 (j - i) (by omega);rwa [show off+i+(j - i)=off+j by omega]at this
  rename_i q;rw [g5 (off+j) (by omega)];exact h4 j hj
 rw [gj]at hj;rw [g5 j (by omega)];exact h5 j hj
end
theorem DR (blk off cap:Nat) (d:Array Int) (w:World) (hH:cS w blk off d) (hsz:d.size≤100000) (hcap:d.size≤cap) :
    Calls Tryz.prog 23 #[.slice (some ⟨blk,off,none⟩) d.size cap] w fun e w'=>e=.returned (.slice (some ⟨blk,off,none⟩) d.size cap)∧aA w blk off (i4 d.size 0 d) w':=by
 have HH:=qqh hH;obtain⟨n,hn⟩:∃ n,n=d.size:=⟨_,rfl⟩;rw [← hn]at hsz hcap ⊢;have HN:=qqh hn;clear hH hn;go_enter Tryz.func23,Tryz.ntmps23;go_wp2_with fail;go_loopw [3] (fun vi wr=>∃ (f i:Nat) (dk:Array Int),vi=.int .i64 i∧i≤n∧n≤i+f∧dk.size=n∧aA w blk off dk wr∧i4 f i dk=i4 n 0 d) (fun vi _=>n - (intOf vi).toNat);(case atStart=>exact⟨n,0,d,rfl,Nat.zero_le _,by omega,HN.out.symm,aA.start HH.out,rfl⟩);obtain⟨f,i,dk,rfl,hi,hf,lE,hrow,hO⟩:=hrel;have HR:=qqh hrow;have HO:=qqh hO;have HK:=qqh lE;clear hrow hO lE;by_cases hlt:i<n
 ·obtain⟨f,rfl⟩:∃ g,f=g+1:=⟨f - 1,by omega⟩;have HX:=qqh (show i4 f (max (dm dk (n - i) i) (i+1)) (nI dk i (iF eY (dk.extract i (dm dk (n - i) i))))=i4 n 0 d by
   have h:=HO.out;rw [i4,HK.out,if_pos hlt]at h;exact h)
  clear HO;go_wp2_with fail;go_loopw [4] (fun vk wx=>∃ k:Nat,vk=.int .i64 k∧i≤k∧k≤n∧aA w blk off dk wx∧dm dk (n - k) k=dm dk (n - i) i) (fun vk _=>n - (intOf vk).toNat);(case atStart=>exact⟨i,rfl,qql,hi,HR.out,rfl⟩);obtain⟨k,rfl,hk1,hk2,hrow,hE⟩:=hrel;obtain⟨G,hG,eB,gN⟩:=hrow.cells HK.out;have dP:=qqh hrow;have HG:=qqh hG;have HE:=qqh hE;clear hrow hG hE;have sC:=qqh (fun(W:World) (hr:aA w blk off dk W) (he:dm dk (n - i) i=k)=>show Calls Tryz.prog 45 #[.slice (some ⟨blk,off+i,none⟩) (k - i) (cap - i),.func (.func 46) #[] #[]] W fun e w'=>e=.returned (.tuple #[])∧aA w blk off (nI dk i (iF eY (dk.extract i (dm dk (n - i) i)))) w' from by
   have hz:(dk.extract i k).size=k - i:=(by simp [HK.out];omega);have h:=Ef blk (off+i) (cap - i) (dk.extract i k) W (hr.row.sub hk1 (by rw [HK.out];exact hk2)) (by omega);rw [hz]at h;rw [he];exact h.mono fun e w' h=>⟨h.1,hr.sub h.2 (by rw [Dv,hz,HK.out];omega)⟩)
  by_cases hkn:k<n
  ·have e1:=eB k hkn;by_cases hc:0<dR (G k)
   ·as_aux_lemma=>
     have HM:=qqh (show dm dk (n - k) k=dm dk (n - (k+1)) (k+1) by rw [show n - k=(n - (k+1))+1 by omega,dm,if_pos ⟨by rw [HK.out];exact hkn,by rw [← HG.out];exact hc⟩]);clear eB gN;go_wp2_with fail;refine(jg _ _).mono ?_;rintro e w1 ⟨rfl,rfl⟩;go_wp2_with fail;exact⟨⟨k+1,by go_num,by omega,hkn,dP.out,by rw [← HE.out,HM.out]⟩,by simp only [intOf];omega⟩
   as_aux_lemma=>
    have HM:=qqh (show dm dk (n - i) i=k by rw [← HE.out,show n - k=(n - (k+1))+1 by omega,dm,if_neg (fun q=>hc (by rw [HG.out];exact q.2))]);have hcf:decide (0<dR (G k))=false:=decide_eq_false hc;have HC:=qqh (sC.out wr dP.out HM.out);clear eB gN hc;go_wp2_with fail;refine(jg _ _).mono ?_;rintro e w1 ⟨rfl,rfl⟩;go_wp2_with fail;refine HC.out.mono ?_;rintro e w2 ⟨rfl,hr⟩;have pO:=qqh hr;clear hr;go_wp2_with fail;exact⟨⟨f,max k (i+1),_,by go_num,by omega,by omega,by rw [gj];exact HK.out,pO.out,by rw [← HX.out,HM.out]⟩,by simp only [intOf];omega⟩
  as_aux_lemma=>
   obtain rfl:k=n:=(by omega);have HM:=qqh (show dm dk (k - i) i=k by rw [← HE.out,Nat.sub_self,dm]);have HC:=qqh (sC.out wr dP.out HM.out);clear eB gN;go_wp2_with fail;refine HC.out.mono ?_;rintro e w2 ⟨rfl,hr⟩;have pO:=qqh hr;clear hr;go_wp2_with fail;exact⟨⟨f,max k (i+1),_,by go_num,by omega,by omega,by rw [gj];exact HK.out,pO.out,by rw [← HX.out,HM.out]⟩,by simp only [intOf];omega⟩
 have HX:=qqh (show i4 n 0 d=dk by
  rw [← HO.out];cases f with
  | zero=>rfl
  | succ f=>rw [i4,HK.out,if_neg hlt])
 go_wp2_with fail;go_ret;exact⟨rfl,by rw [HX.out];exact HR.out⟩
theorem uj (c:Nat) (w:World):Calls Tryz.prog 23 #[.slice none 0 c] w fun e w'=>e=.returned (.slice none 0 c)∧w'=w:=by
 go_enter Tryz.func23,Tryz.ntmps23;go_wp2_with fail;go_loopw [3] (fun vi wr=>vi=.int .i64 0∧w=wr) (fun _ _=>0);(case atStart=>exact⟨rfl,rfl⟩);obtain⟨rfl,rfl⟩:=hrel;go_wp2_with fail;go_ret;exact⟨rfl,rfl⟩
end Go.Proofs.YtblinekbpcdbfaaGreatDoor
