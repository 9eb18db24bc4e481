/- RuneIn -/
import Derived.Test.YtamkjeipdjbemaaGreatDoorShelfM
import Derived.Test.YtamkjeipdjbemaaGreatDoorZp10
import Derived.Test.YtamkjeipdjbemaaGreatDoorZp6
import Derived.Deep.QuietTactic
import Derived.BigQuiet
import Derived.Laws.Runes
import Derived.Deep.DeepCutAuto
import Derived.Deep.CutBlock
import Derived.WalkMore
import Derived.Laws.DeepStrings4
set_option maxHeartbeats 3200000
set_option maxRecDepth 100000
namespace Go.Proofs.YtamkjeipdjbemaaGreatDoor
open Go.RowKit
theorem wB (s:ByteArray) (r:Int) (w:World) (hs:∀ b∈s.data.toList,b.toNat<128) (h4:4≤s.size) (XU:s.size≤1000) (hv:Utf8.valid r=true) (h128:128≤r) (hne:r≠65533) :
    Calls Tryz.prog 155 #[.string s,.int .i32 r] w fun e w'=>e=.returned (.int .i64 (-1))∧∃ k,w'=w.drewN k:=by
 obtain⟨c2,c4,Ho⟩:=encode_facts r hv h128;have hvr:Lib.validRune r=true:=by
  have:=validRune_eq r;rw [hv]at this;unfold Lib.validRune;unfold validRune at this;simpa using this.symm
 have HV:=qqh (fun(W:World)=>show Calls Tryz.prog 79 #[.int .i32 r] W fun e w'=>e=.returned (.bool true)∧w'=W by
  have:=Tryz.utf8_ValidRune r W;rw [hvr]at this;exact this)
 generalize hc:Utf8.encode r=c at *;have HC:=qqh hc;obtain⟨z,hz⟩:∃ z,c.size=z+1:=⟨c.size - 1,by omega⟩;have gh:128≤ki c (c.size - 1):=by
  rw [← pG c (c.size - 1) (by omega)];exact Int.ofNat_le.2 (Ho (by omega))
 rw [show c.size - 1=z by omega]at gh;rw [hz]at c2 c4;clear Ho hc hv hvr;have hzs:z<s.size:=(by omega);have hzc:z<c.size:=(by omega);have yu:=pG s z hzs;have hbc:=pG c z hzc;have hsz:ki s z<128:=(by rw [← yu];exact Int.ofNat_lt.2 (hs _ (Array.getElem_mem_toList (xs:=s.data) hzs)));have hcmp:¬ ki s z=ki c z:=(by omega);have HI:=qqh (fun(W:World)=>show Calls Tryz.prog 172 #[.string (s.extract (z+1) s.size),.int .u8 (ki c z)] W fun e w'=>e=.returned (.int .i64 (-1))∧∃ k,w'=W.drewN k by
  have:=Tryz.strings_IndexByte (s.extract (z+1) s.size) (ki c z) W;rw [← Lib.firstIdx_eq,firstIdx_ascii s _ _ _ hs (by
   unfold ki at gh ⊢;simp only [Int.toNat_natCast];have:=(c.get! z).toNat_lt;simp;omega)]at this
  exact this.mono fun e w' h=>⟨h.1,0,h.2⟩)
 have sP:∀ W:World,(convert 21 9 (.int .i32 r)).run Tryz.prog W=.ok (.string c) W:=fun W=>by
  rw [← HC.out];exact run_convert_int_string W _ _ _ _ (by rw [Tryz.underlying21];rfl) Tryz.underlying9
 have hw1:IntKind.i64.wrap ((z:Int)+1)=(z:Int)+1:=wrap_small _ (by omega) (by omega);have kO:(z:Int)+1≤(s.size:Int):=(by omega);have Uj:(0:Int)≤(z:Int)+1:=(by omega);have ht1:((z:Int)+1).toNat=z+1:=(by omega);have Ym:∀ W:World,(Instr.index 9 (.string c) (.int .i64 z)).run Tryz.prog W=.ok (.int .u8 (ki c z)) W:=fun W=>by
  rw [run_index_string W _ c _ _ Tryz.underlying9,dif_pos ⟨by omega,by omega⟩];simp [hbc]
 clear hs;go_enter Tryz.func155,Tryz.ntmps155;have hg1:decide ((0:Int)≤r)=true:=decide_eq_true (by omega);have hg2:decide (r<(128:Int))=false:=decide_eq_false (by omega);go_wp2_with (first | (go_at_call 79;refine(HV.out _).mono ?_;rintro e w1 ⟨rfl,hw⟩;rw [hw]) | fail);go_step3;go_wp2_with fail;go_loopw [9,10] (fun i f wr=>i=.int .i64 z∧f=.int .i64 0∧∃ k,wr=w.drewN k) (fun _ _ _=>0);(case atStart=>exact⟨by go_num,rfl,0,rfl⟩);obtain⟨rfl,rfl,hk⟩:=hrel;have HK:=qqh hk;clear hk;go_wp2_with fail;go_step3;go_wp2_with fail;go_quiet (fail);have xu:=qqh (show ∃ k,wr.drewN nq=w.drewN k by
  obtain⟨k,e⟩:=HK.out;exact⟨k+nq,by rw [e,World.drewN_drewN]⟩)
 generalize wr.drewN nq=wq at xu ⊢;go_wp2_with fail;go_quiet (first | (go_at_call 172;exact Calls.quiet_of (HI.out _)));go_wp2_with fail;simp +zetaDelta only [Exit.noGoto,Exit.inBlock,Exit.then];refine bodyPost_ret (v:=.int .i64 (-1)) (by simp [results,Tryz.results155,go_sem]) rfl ⟨rfl,?_⟩;obtain⟨k,e⟩:=xu.out;exact⟨k+nq,by rw [e,World.drewN_drewN]⟩
theorem uW (s:ByteArray) (w:World) :
    Calls Tryz.prog 155 #[.string s,.int .i32 (-1)] w fun e w'=>e=.returned (.int .i64 (-1))∧w'=w:=by
 have HV:=qqh (fun(W:World)=>show Calls Tryz.prog 79 #[.int .i32 (-1)] W fun e w'=>e=.returned (.bool false)∧w'=W from Tryz.utf8_ValidRune (-1) W);go_enter Tryz.func155,Tryz.ntmps155;go_wp2_with (first | (go_at_call 79;refine(HV.out _).mono ?_;rintro e w1 ⟨rfl,hw⟩;rw [hw]) | fail);go_ret;exact⟨rfl,rfl⟩
def UM (w:World) (s:ByteArray) (wr:World):Prop:=∃ p:Nat,p≤s.size∧wr.heap[w.heap.size]? = some (.stringIter s p)∧Below w.heap.size w wr
theorem decode_ascii (s:ByteArray) (p:Nat) (h:p<s.size) (hs:∀ b∈s.data.toList,b.toNat<128):((Utf8.decode s p).1:Int)≠65533:=by
 have hb:((s.get! p).toNat:Int)<128:=by
  have:=pG s p h;unfold ki at this;rw [← this];exact Int.ofNat_lt.2 (hs _ (Array.getElem_mem_toList (xs:=s.data) h))
 have aX:(s.get! (p+0)).toNat<128:=(by rw [Nat.add_zero];omega);unfold Utf8.decode;simp only [if_pos aX];omega
theorem wM (s:ByteArray) (w:World) (hs:∀ b∈s.data.toList,b.toNat<128) :
    Calls Tryz.prog 155 #[.string s,.int .i32 65533] w fun e w'=>e=.returned (.int .i64 (-1))∧Below w.heap.size w w':=by
 have HS:=qqh hs;clear hs;go_enter Tryz.func155,Tryz.ntmps155;go_wp2_with fail;go_loopw [5] (fun _ wr=>UM w s wr) (fun _ wr=>s.size - wr.iterPos w.heap.size);(case atStart=>exact⟨0,Nat.zero_le _,World.iter_heap _ _ _,qqb.alloc qql _⟩);obtain⟨p,hp,hit,nT⟩:=hrel;have hz:=nT.size;have qx:=iterPos_of hit;by_cases hlt:p<s.size
 ·have hnext:=fun ty=>Lib.run_next_any_at (P:=Tryz.prog) wr w.heap.size s p ty hit hlt;have hd:=kN s p hlt;have hne:=decode_ascii s p hlt HS.out;have Kh:=Lib.iterAt_heap wr w.heap.size s p (p+(Utf8.decode s p).2) hit;have aP:=Lib.below_iterAt nT qql s (p+(Utf8.decode s p).2);generalize wr.iterAt w.heap.size s (p+(Utf8.decode s p).2)=W1 at *;generalize hr:((Utf8.decode s p).1:Int)=r at *;generalize (Utf8.decode s p).2=k at *;have i7:=qqh (iterPos_of Kh);have Re:=qqh Kh;have RJ:=qqh qx;clear hit Kh qx hr;go_wp2_with fail;exact⟨⟨p+k,by omega,Re.out,aP⟩,by rw [i7.out,RJ.out];omega⟩
 have hnext:=fun ty=>Lib.run_next_end_at (P:=Tryz.prog) wr w.heap.size s p ty hit hlt;clear hit qx;go_wp2_with fail;go_ret;exact⟨rfl,nT⟩
theorem any_none {s:ByteArray} {r:Int} (hs:∀ b∈s.data.toList,b.toNat<128) (h:r<0∨128≤r):s.data.toList.any (fun b=>decide ((b.toNat:Int)=r))=false:=by
 rw [List.any_eq_false];intro b hb;have:=hs b hb;simp;omega
theorem I8 {s:ByteArray} {r:Int} (h0:0≤r) (h1:r<128):decide (0≤Lib.indexByte s.data.toList r.toNat.toUInt8)=s.data.toList.any (fun b=>decide ((b.toNat:Int)=r)):=by
 rw [← Lib.firstIdx_eq,firstIdx_nonneg];congr 1;funext b;rw [Bool.eq_iff_iff];simp only [beq_iff_eq,decide_eq_true_eq];have hr:r.toNat.toUInt8.toNat=r.toNat:=(by simp;omega);constructor
 ·intro e;rw [e,hr];omega
 intro e;apply UInt8.toNat_inj.1;rw [hr];omega
theorem pY (s:ByteArray) (r:Int) (w:World) (hs:∀ b∈s.data.toList,b.toNat<128) (h4:4≤s.size) (XU:s.size≤1000) (hr:r = -1∨Utf8.valid r=true) :
    Calls Tryz.prog 141 #[.string s,.int .i32 r] w fun e w'=>e=.returned (.bool (s.data.toList.any fun b=>decide ((b.toNat:Int)=r)))∧Below w.heap.size w w':=by
 by_cases hA:0≤r∧r<128
 ·have:=Tryz.strings_ContainsRune_ascii s r w hA.1 hA.2;rw [I8 hA.1 hA.2]at this;exact this.mono fun e w' h=>⟨h.1,by rw [h.2];exact qqb⟩
 have h0:r<0∨128≤r:=(by omega);rw [any_none hs h0];have HI:=qqh (show Calls Tryz.prog 155 #[.string s,.int .i32 r] w fun e w'=>e=.returned (.int .i64 (-1))∧Below w.heap.size w w' by
  rcases hr with rfl | hv;exact(uW s w).mono fun e w' h=>⟨h.1,by rw [h.2];exact qqb⟩;have h128:128≤r:=by
   rcases h0 with h | h
   ·rw [validRune_eq]at hv;simp [validRune]at hv;omega
   exact h
  by_cases hb:r=65533
  ·rw [hb];exact wM s w hs
  exact(wB s r w hs h4 XU hv h128 hb).mono fun e w' h=>⟨h.1,by obtain⟨k,e⟩:=h.2;rw [e];exact below_drewN qqb k⟩)
 clear hs hr;go_enter Tryz.func141,Tryz.ntmps141;go_wp2_with fail;refine HI.out.mono ?_;rintro e w1 ⟨rfl,hb⟩;go_wp2_with fail;go_ret;exact⟨rfl,hb⟩
end Go.Proofs.YtamkjeipdjbemaaGreatDoor
